import Derived.Test.YtmebgielemmehaaGreatDoorKd
set_option linter.unusedVariables false
set_option linter.unusedSimpArgs false
set_option linter.constructorNameAsVariable false
set_option linter.defProp false
namespace Go.AI
section
variable{P:Program}{Y:Mp}
def AP(t:TypeId):bX P (typeInfo t)=P.info? t:=by
 unfold typeInfo;simp only[bind,Sem.bind,program,bX];cases P.info? t<;>rfl
def bT(t:TypeId):bX P (underlying t)=P.underlying t:=by
 unfold underlying;simp only[bind,Sem.bind,program,bX];cases P.underlying t<;>rfl
def dC(t:TypeId):bX P (Go.sizeOf t)=gC P t:=by
 unfold Go.sizeOf gC;rw[bQ,AP];cases P.info? t<;>rfl
def rH(t:TypeId):bX P (isAgg t)=jZ P t:=by
 unfold isAgg jZ;rw[bQ,bT];cases h:P.underlying t with
 |none=>rfl
 |some d=>cases d<;>rfl
def kZ{s:Sem Value}{v:Value}(h:cV P s=some v): ∃v',bX P s=some v'/\VR Y v v':=by
 unfold cV at h;split at h<;>try cases h
 rename_i u hu;cases hp:cK u with
 |false=>simp[hp]at h
 |true=>simp only[hp,aI,aA]at h;subst h;exact⟨u,hu,.same1 hp⟩
def VRL.extract{xs us:Array Value}(r:VRL Y xs.toList us.toList)(i j:Nat):VRL Y (xs.extract i j).toList (us.extract i j).toList:=by
 simp only[Array.toList_extract,List.extract_eq_take_drop];exact(r.drop i).take (j-i)
def VRL.size{xs us:Array Value}(r:VRL Y xs.toList us.toList):xs.size=us.size:=by simpa using r.1
def KH{t:TypeId}{cs us:Array Value}{off:Nat}{v:Value}(r:VRL Y cs.toList us.toList)(h:wH P t cs off=some v): ∃v',bX P (part t us off)=some v'/\VR Y v v':=by
 unfold wH at h;unfold part;rw[bQ,rH];cases ha:jZ P t with
 |none=>simp[ha]at h
 |some b=>
  cases b with
  |true=>
   simp only[ha]at h;cases hs:gC P t with
   |none=>simp[hs]at h
   |some n=>
    simp only[hs,aA]at h;subst h;refine⟨.agg (us.extract off (off+n)),?_,.mkAgg' (r.extract _ _)⟩;simp only[aL,bO,bQ,dC,hs,bS]
  |false=>
   simp only[ha]at h;obtain⟨u,hu,hr⟩:=r.get (i:=off) (x:=v) (by simpa using h)
   refine⟨u,?_,hr⟩;have:us[off]?=some u:=by simpa using hu
   simp[this,bS]
def SO(place:Nat): ∀(c c':List Value) (k:Nat) (A A':Array Value),VRL Y c c'->VRL Y A.toList A'.toList->
    VRL Y ((c.zipIdx k).foldl (λ(cs:Array Value) x=>cs.setIfInBounds (place+x.2) x.1) A).toList ((c'.zipIdx k).foldl (λ(cs:Array Value) x=>cs.setIfInBounds (place+x.2) x.1) A').toList:=by
 intro c;induction c with
 |nil=>intro c' k A A' hc hA;rw[hc.nil_inv];simpa using hA
 |cons x c ih=>
  intro c' k A A' hc hA;obtain⟨u,c'',rfl,hx,md⟩:=hc.cons_inv;simp only[List.zipIdx_cons,List.foldl_cons];refine ih _ _ _ _ md ?_;simp only[Array.toList_setIfInBounds];exact hA.set hx _
def PR(Y:Mp):List (Nat×Value)->List (Nat×Value)->Prop
 |[],[]=>True
 |(i,x)::xs,(j,u)::us=>i=j/\VR Y x u/\PR Y xs us
 |_,_=>False
def FB(place:Nat->Option (Nat×Nat)): ∀(ps qs:List (Nat×Value)) (A A':Array Value) (r:Array Value),PR Y ps qs->VRL Y A.toList A'.toList->Instr.fill place A ps=some r->
    ∃r',Instr.fill place A' qs=some r'/\VRL Y r.toList r'.toList:=by
 intro ps;induction ps with
 |nil=>
  intro qs A A' r hp hA h;cases qs with
  |nil=>simp only[Instr.fill,aA]at h;subst h;exact⟨A',rfl,hA⟩
  |cons q qs=>exact hp.elim
 |cons p ps ih=>
  intro qs A A' r hp hA h;obtain⟨i,x⟩:=p;cases qs with
  |nil=>exact hp.elim
  |cons q qs=>
   obtain⟨j,u⟩:=q;obtain⟨rfl,hx,ph⟩:=hp;have cq:u.cells.size=x.cells.size:=(hx.cells.size).symm;have hsA:A'.size=A.size:=hA.size.symm;simp only[Instr.fill]at h⊢;cases di:place i with
   |none=>simp[di]at h
   |some os=>
    obtain⟨off,size⟩:=os;simp only[di]at h⊢;rw[cq,hsA];split at h
    .cases h
    .rename_i hn;rw[bH hn];refine ih _ _ _ _ ph ?_ h;have:=SO (Y:=Y) off x.cells.toList u.cells.toList 0 A A' hx.cells hA;rw[<-Array.foldl_toList,<-Array.foldl_toList,Array.toList_zipIdx,Array.toList_zipIdx];exact this
def ZJ{Z Z':Operand->Value}(l:List (Nat×Operand))(h: ∀x∈l,VR Y (Z x.2) (Z' x.2)):PR Y (l.map λ(i,x)=>(i,Z x)) (l.map λ(i,x)=>(i,Z' x)):=by
 induction l with
 |nil=>trivial
 |cons x l ih=>exact⟨rfl,h x (by simp),ih λy hy=>h y (by simp[hy])⟩
def Aw{Z Z':Operand->Value}(l:List Operand)(h: ∀x∈l,VR Y (Z x) (Z' x)):VRL Y (l.map Z) (l.map Z'):=by
 induction l with
 |nil=>exact .nil
 |cons x l ih=>exact .cons (h x (by simp)) (ih λy hy=>h y (by simp[hy]))
def Ti{t:TypeId}{ps qs:Array (Nat×Value)}{v:Value}(r:PR Y ps.toList qs.toList)(h:uT P t ps=some v): ∃v',bX P (Instr.build t qs)=some v'/\VR Y v v':=by
 unfold uT at h;cases hz:bX P (zeroValue t)with
 |none=>simp[hz]at h
 |some z=>
  simp only[hz]at h;cases hp:z.cells.toList.all bR with
  |false=>simp[hp]at h
  |true=>
   simp only[hp,aI]at h;unfold Instr.build;simp only[bQ,hz,aL,bT];cases hu:P.underlying t with
   |none=>simp[hu]at h
   |some d=>
    simp only[hu]at h;cases d with
    |struct fs=>
     simp only at h;cases hm:bX P (fs.mapM λf=>do pure (f.offset,<-Go.sizeOf f.type))with
     |none=>rw[hm]at h;cases h
     |some EW=>
      simp only[hm,aF]at h;obtain⟨cs,hf,rfl⟩:=h;obtain⟨cx,jt,hr⟩:=FB _ _ _ _ _ _ r (VRL.same hp) hf;refine⟨.agg cx,?_,.mkAgg' hr⟩;simp only[aL,bQ,hm];rw[jt];rfl
    |array n e=>
     simp only at h;cases hs:gC P e with
     |none=>simp[hs]at h
     |some s=>
      simp only[hs,aF]at h;obtain⟨cs,hf,rfl⟩:=h;obtain⟨cx,jt,hr⟩:=FB _ _ _ _ _ _ r (VRL.same hp) hf;refine⟨.agg cx,?_,.mkAgg' hr⟩;simp only[aL,bQ,dC,hs];rw[jt];rfl
    |_=>simp at h
def iX(id off n:Nat):(Addr.mk id off none).add n=⟨id,off+n,none⟩:=by
 unfold Addr.add;split
 .rename_i h;subst h;rfl
 .rfl
def VR.ptr_inv{id off:Nat}{u:Value}(r:VR Y (.pointer (some ⟨id,off,none⟩)) u): ∃p,Y id=some p/\u= .pointer (some ⟨p.b,p.o+off,none⟩):=by
 cases r with
 |same _ h=>simp[bR]at h
 |ptr _ _ p h=>exact⟨p,h,rfl⟩
def VR.slc_inv{id off len c:Nat}{u:Value}(r:VR Y (.slice (some ⟨id,off,none⟩) len c) u):
    ∃p cap,Y id=some p/\u= .slice (some ⟨p.b,p.o+off,none⟩) len cap/\(c=len->cap=len)/\len<=cap/\(p.o+off+cap*p.z<=p.e∨p.z=0):=by
 cases r with
 |same _ h=>simp[bR]at h
 |slc _ _ _ _ cap p h hc hl he=>exact⟨p,cap,h,rfl,hc,hl,he⟩
def VR.nilslc_inv{len c:Nat}{u:Value}(r:VR Y (.slice none len c) u):len=0/\c=0/\u= .slice none 0 0:=by
 cases r with
 |same _ h=>simp only[bR,cQ,aC,aD]at h;obtain⟨rfl,rfl⟩:=h;exact⟨rfl,rfl,rfl⟩
def VR.int_inv{k:IntKind}{n:Int}{u:Value}(r:VR Y (.int k n) u):u= .int k n:=r.eq0 rfl
def VR.bool_inv{b:Bool}{u:Value}(r:VR Y (.bool b) u):u= .bool b:=r.eq0 rfl
def VR.string_inv{s:ByteArray}{u:Value}(r:VR Y (.string s) u):u= .string s:=r.eq0 rfl
def Dg{s:TypeId}{a b v:Value}{f:Nat}(r:VR Y a b)(h:jT P s a f=some v): ∃v',bX P (Instr.fieldAt s b f)=some v'/\VR Y v v':=by
 unfold jT at h;unfold Instr.fieldAt;rw[bQ,bT];split at h<;>try cases h
 rename_i fs hu;split at h<;>try cases h
 rename_i fd hf;split at h<;>try cases h
 rename_i n hn;split at h<;>try cases h
 rename_i id off;obtain⟨p,hp,rfl⟩:=r.ptr_inv;rw[cQ,Bool.cond_decide]at h;split at h
 .cases h
 .rename_i hn0;cases h;refine⟨.pointer (some ⟨p.b,p.o+(off+fd.offset),none⟩),?_,.ptr _ _ p hp⟩;simp only[hu,aL,hf,Instr.sureAddr,bQ,bS,fieldPlace,dC,hn,bH hn0,iX,Nat.add_assoc]
def Tg{t:TypeId}{a b v:Value}{f:Nat}(r:VR Y a b)(h:uS P t a f=some v): ∃v',bX P (Instr.field t b f)=some v'/\VR Y v v':=by
 unfold uS at h;unfold Instr.field;rw[bQ,bT];split at h<;>try cases h
 rename_i fs hu;split at h<;>try cases h
 rename_i fd hf;split at h<;>try cases h
 obtain⟨us,rfl,hl⟩:=r.agg_inv;obtain⟨v',hv,hr⟩:=KH hl h;refine⟨v',?_,hr⟩;simp only[hu,aL,hf,asAgg,bQ,bS,hv]
def sB{i:Int}{n:Nat}:bV i n=true↔0<=i/\i<(n:Int):=by simp[bV]
def Df{t:TypeId}{a b i j v:Value}(r:VR Y a b)(ri:VR Y i j)(h:fF P t a i=some v): ∃v',bX P (Instr.indexAt t b j)=some v'/\VR Y v v':=by
 unfold fF at h;unfold Instr.indexAt;split at h<;>try cases h
 rename_i k n;obtain rfl:=ri.int_inv;rw[bQ];simp only[asIntOf,bS,aL];rw[bQ,bT];split at h<;>try cases h
 .rename_i e hu;split at h<;>try cases h
  rename_i id off len c;obtain⟨p,cap,hp,rfl,_⟩:=r.slc_inv;split at h<;>try cases h
  rename_i z hz;cases hin:bV n len with
  |false=>simp[hin]at h
  |true=>
   simp only[hin,aI,aA]at h;subst h;rw[sB]at hin;refine⟨.pointer (some ⟨p.b,p.o+(off+n.toNat*z),none⟩),?_,.ptr _ _ p hp⟩;simp only[hu,aL,bQ,bS,bT,bI hin,dC,hz,iX,Nat.add_assoc]
 .rename_i len e hu;split at h<;>try cases h
  rename_i id off;obtain⟨p,hp,rfl⟩:=r.ptr_inv;split at h<;>try cases h
  rename_i z hz;cases hin:bV n len with
  |false=>simp[hin]at h
  |true=>
   simp only[hin,aI,aA]at h;subst h;rw[sB]at hin;refine⟨.pointer (some ⟨p.b,p.o+(off+n.toNat*z),none⟩),?_,.ptr _ _ p hp⟩;simp only[hu,aL,bQ,bS,bT,bI hin,dC,hz,iX,Nat.add_assoc,Instr.sureAddr]
def Te{t:TypeId}{a b i j v:Value}(r:VR Y a b)(ri:VR Y i j)(h:uR P t a i=some v): ∃v',bX P (Instr.index t b j)=some v'/\VR Y v v':=by
 unfold uR at h;split at h<;>try cases h
 .rename_i hu;cases hp:(bR a&&bR i)with
  |false=>simp[hp]at h
  |true=>
   simp only[hp,aI]at h;simp only[aC]at hp;obtain rfl:=r.eq0 hp.1;obtain rfl:=ri.eq0 hp.2;exact kZ h
 .rename_i len e hu;split at h<;>try cases h
  rename_i k n cs;obtain rfl:=ri.int_inv;obtain⟨us,rfl,hl⟩:=r.agg_inv;split at h<;>try cases h
  rename_i z hz;cases hin:bV n len with
  |false=>simp[hin]at h
  |true=>
   simp only[hin,aI]at h;rw[sB]at hin;obtain⟨v',hv,hr⟩:=KH hl h;refine⟨v',?_,hr⟩;unfold Instr.index;simp only[asIntOf,bQ,bS,aL,bT,hu,bI hin,dC,hz,hv]
def eS{n:Int}{k:IntKind}{y:Nat}{code:BoundsCode}(h0:0<=n)(h1:n<=(y:Int)):bX P (Instr.sliceBound (.int k n) y code)=some n.toNat:=by
 unfold Instr.sliceBound;simp only[asIntOf,bQ,bS,aL];rw[bI ⟨h0,h1⟩];rfl
def eW{a:Option Value}{l:Option Int}(h:lX a=some l):(a=none/\l=none)∨∃k n,a=some (.int k n)/\l=some n:=by
 unfold lX at h;split at h
 .cases h;exact .inl ⟨rfl,rfl⟩
 .rename_i k n;cases h;exact .inr ⟨k,n,rfl,rfl⟩
 .cases h
def OR(Y:Mp):Option Value->Option Value->Prop
 |none,none=>True
 |some x,some u=>VR Y x u
 |_,_=>False
def NP{Z Z':Operand->Value}(x:Option Operand)(h: ∀y,x=some y->VR Y (Z y) (Z' y)):OR Y (x.map Z) (x.map Z'):=by
 cases x with
 |none=>trivial
 |some y=>exact h y rfl
def OR.int{a b:Option Value}{l:Option Int}(r:OR Y a b)(h:lX a=some l):b=a:=by
 rcases eW h with⟨rfl,rfl⟩|⟨k,n,rfl,rfl⟩
 .cases b with
  |none=>rfl
  |some x=>exact r.elim
 .cases b with
  |none=>exact r.elim
  |some x=>rw[VR.int_inv r]
def OR.plain{a b:Option Value}(r:OR Y a b)(h:bR (a.getD (.bool true))=true):b=a:=by
 cases a with
 |none=>cases b with
  |none=>rfl
  |some x=>exact r.elim
 |some y=>cases b with
  |none=>exact r.elim
  |some x=>rw[VR.eq0 r h]
def iN{lo hi mx:Option Value}{len cap:Nat}{l h m:Option Int}(hl:lX lo=some l)(hh:lX hi=some h)(hm:lX mx=some m)
    (hmh:m≠none->h≠none) (h0:0<=l.getD 0) (h1:l.getD 0<=h.getD (len:Int)) (h2:h.getD (len:Int)<=m.getD (cap:Int)) (h3:m.getD (cap:Int)<=(cap:Int)) (h4:len<=cap):
    bX P (Instr.sliceBounds true len cap lo hi mx)=some ((l.getD 0).toNat,(h.getD (len:Int)).toNat,(m.getD (cap:Int)).toNat):=by
 unfold Instr.sliceBounds;rcases eW hm with⟨rfl,rfl⟩|⟨km,nm,rfl,rfl⟩
 .rcases eW hh with⟨rfl,rfl⟩|⟨kh,nh,rfl,rfl⟩
  .rcases eW hl with⟨rfl,rfl⟩|⟨kl,nl,rfl,rfl⟩
   .simp[bQ,bS]
   .simp only[Option.getD_none,Option.getD_some]at*;simp only[bQ,bS,aL,eS h0 h1,Int.toNat_natCast]
  .rcases eW hl with⟨rfl,rfl⟩|⟨kl,nl,rfl,rfl⟩
   .simp only[Option.getD_none,Option.getD_some]at*;simp only[bQ,bS,aL,eS (show 0<=nh by omega) h2,Int.toNat_natCast,Int.toNat_zero]
   .simp only[Option.getD_none,Option.getD_some]at*;simp only[bQ,bS,aL,eS (show 0<=nh by omega) h2,Int.toNat_natCast]
    rw[eS h0 (by omega)];rfl
 .rcases eW hh with⟨rfl,rfl⟩|⟨kh,nh,rfl,rfl⟩
  .exact absurd rfl (hmh (by simp))
  .rcases eW hl with⟨rfl,rfl⟩|⟨kl,nl,rfl,rfl⟩
   .simp only[Option.getD_none,Option.getD_some]at*;simp only[bQ,bS,aL,eS (show 0<=nm by omega) h3,Int.toNat_zero]
    rw[eS (show 0<=nh by omega) (by omega)];rfl
   .simp only[Option.getD_none,Option.getD_some]at*;simp only[bQ,bS,aL,eS (show 0<=nm by omega) h3]
    rw[eS (show 0<=nh by omega) (by omega)]
    simp only[aL];rw[eS h0 (by omega)];rfl
def Tb{H:St}{t:TypeId}{a b v:Value}{lo hi mx lm jz mx':Option Value}(hZ: ∀id p z,Y id=some p->oG H id z=true->p.z=z)
    (r:VR Y a b) (rl:OR Y lo lm) (rh:OR Y hi jz) (rm:OR Y mx mx') (h:oN P H t a lo hi mx=some v):
    ∃v',bX P (Instr.sliceAt t b lm jz mx')=some v'/\VR Y v v':=by
 unfold oN at h;split at h<;>try cases h
 .rename_i hu;split at h<;>try cases h
  rename_i s;obtain rfl:=r.string_inv;cases hp:(mx.isNone&&bR (lo.getD (.bool true))&&bR (hi.getD (.bool true)))with
  |false=>simp[hp]at h
  |true=>
   simp only[hp,aI]at h;simp only[aC]at hp;obtain rfl:=rl.plain hp.1.2;obtain rfl:=rh.plain hp.2;have:mx=none:=by simpa using hp.1.1
   subst this;obtain rfl:mx'=none:=by cases mx' with|none=>rfl|some x=>exact rm.elim
   exact kZ h
 .rename_i e hu;split at h<;>try cases h
  rename_i base len c;split at h<;>try cases h
  rename_i z l hh m hz hl ka hm;obtain rfl:=rl.int hl;obtain rfl:=rh.int ka;obtain rfl:=rm.int hm;simp only at h;cases hb:(decide (0<=l.getD 0)&&decide (l.getD 0<=hh.getD (len:Int))&&decide (hh.getD (len:Int)<=(len:Int)))with
  |false=>rw[hb]at h;cases h
  |true=>
   rw[hb]at h;simp only[aC,aD]at hb;obtain⟨⟨h0,h1⟩,h2⟩:=hb;simp only[aI]at h;have hS: ∀x,bX P (Instr.sliceAt t x lm jz mx')=bX P (Instr.slice t x lm jz mx'):=by
    intro x;unfold Instr.sliceAt;rw[bQ,bT,hu];rfl
   rw[hS];by_cases hz0:(Nat.beq len 0&&xI m&&hh.isSome)=true
   .rw[hz0,aI]at h;simp only[aA]at h;subst h;simp only[aC]at hz0;obtain⟨⟨hz1,hz2⟩,hz3⟩:=hz0;have hl0:=aE hz1;subst hl0;have hm0:m=some 0:=by
     cases m with
     |none=>cases hz2
     |some n=>simp only[xI,aD]at hz2;rw[hz2]
    subst hm0;have hn:hh≠none:=by intro e;subst e;cases hz3
    have e1:(l.getD 0).toNat=0:=by simp only[Int.natCast_zero]at h2 h1;omega
    have e2:(hh.getD ((0:Nat):Int)).toNat=0:=by simp only[Int.natCast_zero]at h2 h1⊢;omega
    have hB:=λcap=>iN (P:=P) (len:=0) (cap:=cap) hl ka hm (λ_=>hn) h0 h1 (by simp only[Int.natCast_zero,Option.getD_some]at h2⊢;omega) (by simp) (Nat.zero_le _)
    cases base with
    |none=>
     obtain⟨_,rfl,rfl⟩:=r.nilslc_inv;refine⟨.slice none 0 0,?_,.same _ rfl⟩;unfold Instr.slice;rw[bQ,bT,hu];simp only[aL];rw[bQ,hB 0];simp only[aL,bQ,dC,hz,e1,e2,Option.getD_some,Int.toNat_zero,bO,Nat.sub_self,bS]
    |some a=>
     obtain⟨a',cap,rfl⟩: ∃a' cap,b= .slice (some a') 0 cap:=by
      cases r with
      |same _ hp=>simp[bR]at hp
      |slc=>exact⟨_,_,rfl⟩
      |emp=>exact⟨_,_,rfl⟩
     refine⟨.slice (some a') 0 0,?_,.emp _ 1 0 λ_=>rfl⟩
     unfold Instr.slice;rw[bQ,bT,hu];simp only[aL];rw[bQ,hB cap];simp only[aL,bQ,dC,hz,e1,e2,Option.getD_some,Int.toNat_zero,bO,Nat.sub_self,bS]
   rw[Bool.not_eq_true]at hz0;rw[hz0,aJ]at h;have hzero: ∀a' cap,len=0->mx'=none->bX P (Instr.slice t (.slice (some a') len cap) lm jz mx')=some (.slice (some a') len cap):=by
    rintro a' cap rfl rfl;unfold Instr.slice;rw[bQ,bT,hu];simp only[aL];rcases eW hm with⟨_,rfl⟩|⟨_,_,e,_⟩
    .have hB:=iN (P:=P) (len:=0) (cap:=cap) hl ka hm (by simp) h0 h1 (by simp only[Option.getD_none,Int.natCast_zero]at h2⊢;omega) (by simp) (Nat.zero_le _)
     simp only[Option.getD_none]at hB;rw[bQ,hB];have e1:(l.getD 0).toNat=0:=by simp only[Int.natCast_zero]at h2 h1;omega
     have e2:(hh.getD ((0:Nat):Int)).toNat=0:=by simp only[Int.natCast_zero]at h2 h1⊢;omega
     simp only[aL,bQ,dC,hz,e1,e2,Int.toNat_natCast,Nat.sub_self,Nat.sub_zero,bS,Nat.zero_mul];split
     .rfl
     .simp only[aK,Addr.add,bO]
    .cases e
   by_cases lq: ∃x y s,base=some ⟨x,y,some s⟩
   .obtain⟨x,y,s,rfl⟩:=lq;simp only at h;cases hc0:(Nat.beq len 0&&mx'.isNone)with
    |false=>rw[hc0]at h;cases h
    |true=>
     rw[hc0]at h;simp only[aI,aA]at h;subst h;simp only[aC]at hc0;have hl0:=aE hc0.1;have qj:mx'=none:=by simpa using hc0.2
     cases r with
     |same _ hp=>simp[bR]at hp
     |emp a' _ cap hs=>exact⟨_,hzero a' cap rfl qj,.emp a' _ cap hs⟩
   by_cases hrz0: ∃id off,base=some ⟨id,off,none⟩/\oG H id z=false
   .obtain⟨id,off,rfl,lr⟩:=hrz0;simp only[lr,aJ]at h;cases hc0:(Nat.beq len 0&&mx'.isNone)with
    |false=>rw[hc0]at h;cases h
    |true=>
     rw[hc0]at h;simp only[aI,aA]at h;subst h;simp only[aC]at hc0;have hl0:=aE hc0.1;have qj:mx'=none:=by simpa using hc0.2
     obtain⟨p,cap,hp,rfl,hc,hlc,he⟩:=r.slc_inv;exact⟨_,hzero _ cap hl0 qj,r⟩
   unfold Instr.slice;rw[bQ,bT,hu];simp only[aL];split at h
   ·
    obtain⟨rfl,rfl,rfl⟩:=r.nilslc_inv;cases hmx:mx'.isNone with
    |false=>simp[hmx]at h
    |true=>
     simp only[hmx,aI,aA]at h;subst h;have:mx'=none:=by simpa using hmx
     subst this;rcases eW hm with⟨_,rfl⟩|⟨_,_,e,_⟩
     .have hB:=iN (P:=P) (len:=0) (cap:=0) hl ka hm (by simp) h0 h1 (by simpa using h2) (by simp) (aS _)
      refine⟨.slice none 0 0,?_,.same _ rfl⟩;simp only[Option.getD_none]at hB;rw[bQ,hB];have e1:(l.getD 0).toNat=0:=by simp only[Int.natCast_zero]at h2 h1;omega
      have e2:(hh.getD ((0:Nat):Int)).toNat=0:=by simp only[Int.natCast_zero]at h2 h1⊢;omega
      simp only[aL,bQ,dC,hz,e1,e2,Int.toNat_natCast,bO,Nat.sub_self,bS]
     .cases e
   .rename_i id off;obtain⟨p,cap,hp,rfl,hc,hlc,he⟩:=r.slc_inv;cases lr:oG H id z with
    |false=>exact absurd ⟨id,off,rfl,lr⟩ hrz0
    |true=>
    rw[lr]at h;simp only[aI]at h;have mw:=hZ id p z hp lr;generalize hL:(l.getD 0).toNat=L at*;generalize hH:(hh.getD (len:Int)).toNat=σ at*;have hLH:L<=σ:=by omega
    have hHl:σ<=len:=by omega
    have hmul:p.o+(off+L*z)+(cap-L)*p.z<=p.e∨p.z=0:=by
     refine he.imp (λhe=>?_) _root_.id
     have:(cap-L)*p.z=cap*p.z-L*p.z:=Nat.sub_mul _ _ _;have h':L*p.z<=cap*p.z:=Nat.mul_le_mul_right _ (by omega)
     rw[<-mw];omega
    split at h
    ·
     rename_i qj;rcases eW hm with⟨rfl,_⟩|⟨_,_,_,e⟩
     .have hB:=iN (P:=P) (len:=len) (cap:=cap) hl ka hm (by simp) h0 h1 (by simp;omega) (by simp) hlc
      simp only[Option.getD_none,Int.toNat_natCast,hL,hH]at hB;simp only;rw[bQ,hB];simp only[aL,bQ,dC,hz,bS];refine⟨_,rfl,?_⟩;simp only[cQ,Bool.cond_decide,<-Bool.decide_and]at h;split at h
      .rename_i dx;obtain⟨dx,pq⟩:=dx;have fc:=hc dx;subst fc;split at h
       .rename_i hll;cases h;rw[bI hll.symm,pq,hll,Nat.sub_self];exact .slc id off 0 0 0 p hp (λ_=>rfl) (aS _) (he.imp (λhe=>by simp;have:=Nat.zero_le (cap*p.z);omega) _root_.id)
       .rename_i hll;cases h;rw[bH (by omega),pq]
        simp only[aK,iX,Nat.add_assoc];exact .slc id (off+L*z) (cap-L) (cap-L) (cap-L) p hp (λ_=>rfl) (aS _) hmul
      .split at h
       .rename_i dx pq;cases h;obtain⟨pq,hl0⟩:=pq;have: ¬cap=L∨cap=0:=by omega
        subst pq;subst hl0;have e3:(if cap=0 then some (Addr.mk p.b (p.o+off) none)else Option.map (λx=>x.add (0*z)) (some (Addr.mk p.b (p.o+off) none)))=some (Addr.mk p.b (p.o+off) none):=by
         split
         .rfl
         .simp[iX]
        rw[e3];exact .slc id off _ c cap p hp hc hlc he
       .split at h
        .rename_i hll;cases h;rw[bH (by omega)]
         simp only[aK,iX,Nat.add_assoc];exact .slc id (off+L*z) (σ-L) (σ-L+1) (cap-L) p hp (λe=>by omega) (by omega) hmul
        .cases h;rw[show σ-L=0 by omega]
         split
         .exact .emp _ 0 _ (λh=>by cases h)
         .simp only[aK];exact .emp _ 0 _ (λh=>by cases h)
     .cases e
    .rename_i m';rcases eW hm with⟨_,e⟩|⟨km,nm,rfl,e⟩
     .cases e
     .cases e;cases hd:(decide (hh.getD (len:Int)=m')&&decide (l.getD 0<m')&&hh.isSome)with
      |false=>rw[hd]at h;cases h
      |true=>
       rw[hd]at h;simp only[aC,aD]at hd;obtain⟨⟨hd1,hd2⟩,hd3⟩:=hd;simp only[aI,aA]at h;subst h;have hn:hh≠none:=by intro e;subst e;cases hd3
       have hB:=iN (P:=P) (len:=len) (cap:=cap) hl ka hm (λ_=>hn) h0 h1 (by simp;omega) (by simp;omega) hlc
       simp only[Option.getD_some,hL,hH]at hB;simp only;rw[bQ,hB];simp only[aL,bQ,dC,hz,bS];refine⟨_,rfl,?_⟩;have qm:m'.toNat=σ:=by omega
       rw[qm,bH (by omega)]
       simp only[aK,iX,Nat.add_assoc];have hm2:p.o+(off+L*z)+(σ-L)*p.z<=p.e∨p.z=0:=by
        refine hmul.imp (λhmul=>?_) _root_.id
        have:(σ-L)*p.z<=(cap-L)*p.z:=Nat.mul_le_mul_right _ (by omega)
        omega
       exact .slc id (off+L*z) (σ-L) (σ-L) (σ-L) p hp (λ_=>rfl) (aS _) hm2
   .exact absurd ⟨_,_,_,rfl⟩ lq
 .rename_i n e hu;split at h<;>try cases h
  rename_i id off z hz;cases hr:oG H id 0 with
  |false=>rw[hr]at h;cases h
  |true=>
   rw[hr,aI,aA]at h;subst h;obtain⟨p,hp,rfl⟩:=r.ptr_inv;obtain rfl:lm=none:=by cases lm with|none=>rfl|some x=>exact rl.elim
   obtain rfl:jz=none:=by cases jz with|none=>rfl|some x=>exact rh.elim
   obtain rfl:mx'=none:=by cases mx' with|none=>rfl|some x=>exact rm.elim
   refine⟨.slice (some ⟨p.b,p.o+off,none⟩) n n,?_,.slc id off n n n p hp (λ_=>rfl) (aS _) (.inr (hZ id p 0 hp hr))⟩
   unfold Instr.sliceAt Instr.sliceBounds;rw[bQ,bT,hu];simp[-bind_pure_comp,bQ,bS,dC,hz,Instr.sureAddr,iX]
def aEH{t:TypeId}{a b v:Value}{ts:Array TypeId}{ty:TypeId}{us:Array Value}(r:VR Y a b)(ht:ts[0]?=some t)(hb:us[0]?=some b)(h:De P t a=some v):
    ∃v',bX P (Builtin.len_ ts ty us)=some v'/\VR Y v v':=by
 unfold De at h;unfold Builtin.len_;simp only[ht,hb];rw[bQ,bT];split at h<;>try cases h
 .rename_i e hu;split at h<;>try cases h
  rename_i base n c;have: ∃qv cap,b= .slice qv n cap:=by
   cases base with
   |none=>obtain⟨rfl,rfl,rfl⟩:=r.nilslc_inv;exact⟨none,0,rfl⟩
   |some a=>
    cases r with
    |same _ h=>simp[bR]at h
    |slc id off len c cap p h hc hl he=>exact⟨_,_,rfl⟩
    |emp a s cap h=>exact⟨_,_,rfl⟩
  obtain⟨qv,cap,rfl⟩:=this;exact⟨goInt n,by simp[hu,bS],.same _ rfl⟩
 .rename_i hu;split at h<;>try cases h
  rename_i s;obtain rfl:=r.string_inv;exact⟨goInt s.size,by simp[hu,bS],.same _ rfl⟩
 .rename_i n e hu;exact⟨goInt n,by simp[hu,bS],.same _ rfl⟩
def FE{t e:TypeId}(ht:P.underlying t=some (.slice e))(a:Addr)(l c l' c':Nat):bX P (Op.equal t (.slice (some a) l c) (.slice none l' c'))=some false:=by
 unfold Op.equal;rw[show Op.maxDepth=Nat.succ 9999 from rfl,Op.equalIn.eq_2,bQ,bT,ht];rfl
def FF{t e:TypeId}(ht:P.underlying t=some (.slice e))(a:Addr)(l c l' c':Nat):bX P (Op.equal t (.slice none l' c') (.slice (some a) l c))=some false:=by
 unfold Op.equal;rw[show Op.maxDepth=Nat.succ 9999 from rfl,Op.equalIn.eq_2,bQ,bT,ht];rfl
def aEF{op:BinOp}{t:TypeId}{a b c d v:Value}{x y:Operand}(r:VR Y a b)(s:VR Y c d)(ht: ∃e,P.underlying t=some (.slice e))(h:XN op a c=some v):
    ∃v',bX P (do eqGuard op t x y b d;binOp op t b d)=some v'/\VR Y v v':=by
 obtain⟨e,ht⟩:=ht;unfold XN at h;simp only at h;split at h
 .rename_i a0 l c l' c';obtain⟨rfl,rfl,rfl⟩:=s.nilslc_inv;have: ∃a1 l1 c1,b= .slice (some a1) l1 c1:=by
   cases r with
   |same _ h=>simp[bR]at h
   |slc id off len c cap p h hc hl he=>exact⟨_,_,_,rfl⟩
   |emp a s cap h=>exact⟨_,_,_,rfl⟩
  obtain⟨a1,l1,c1,rfl⟩:=this;cases op<;>simp only at h<;>first
   |(cases h;refine⟨_,?_,.same _ rfl⟩;simp only[bQ,eqGuard,bD,Bool.false_eq_true,bN,bS,aL,binOp,FE ht];done)
   |cases h
 .rename_i l c a0 l' c';obtain⟨rfl,rfl,rfl⟩:=r.nilslc_inv;have: ∃a1 l1 c1,d= .slice (some a1) l1 c1:=by
   cases s with
   |same _ h=>simp[bR]at h
   |slc id off len c cap p h hc hl he=>exact⟨_,_,_,rfl⟩
   |emp a s cap h=>exact⟨_,_,_,rfl⟩
  obtain⟨a1,l1,c1,rfl⟩:=this;cases op<;>simp only at h<;>first
   |(cases h;refine⟨_,?_,.same _ rfl⟩;simp only[bQ,eqGuard,bD,Bool.false_eq_true,bN,bS,aL,binOp,FF ht];done)
   |cases h
 .cases h
def hX(c:Call): ∀x∈c.args.toList,x∈(Op.call c).operands:=by
 intro x hx;simp only[Op.operands,Call.operands];exact Array.mem_append.2 (.inr (Array.mem_toList_iff.1 hx))
def XM{Z Z':Operand->Value}{o:Oper}{v:Value}(hρ: ∀x∈o.op.operands,VR Y (Z x) (Z' x))(h:iW P Z o=some v):
    ∃v',bX P (execOp Z' o)=some (.value v')/\VR Y v v':=by
 have iG: ∀{s:Sem Value},(∃v',bX P s=some v'/\VR Y v v')->∃v',bX P (do pure (Next.value (<-s)))=some (.value v')/\VR Y v v':=by
  rintro s ⟨v',h1,h2⟩;exact⟨v',by rw[bQ,h1];rfl,h2⟩
 unfold iW at h;unfold execOp;cases ho:o.op<;>simp only[ho]at h hρ⊢ <;>try cases h
 case move x=>exact⟨_,rfl,hρ x (by simp[Op.operands])⟩
 case assign x=>exact⟨_,rfl,hρ x (by simp[Op.operands])⟩
 case pick c a b=>
  have hc:=hρ c (by simp[Op.operands])
  split at h<;>try cases h
  .rename_i hb;rw[hb]at hc;rw[hc.bool_inv];exact⟨_,rfl,hρ a (by simp[Op.operands])⟩
  .rename_i hb;rw[hb]at hc;rw[hc.bool_inv];exact⟨_,rfl,hρ b (by simp[Op.operands])⟩
 case build t parts=>
  refine iG (Ti ?_ h);simpa using ZJ parts.toList (λx hx=>hρ x.2 (by simp[Op.operands];exact⟨_,Array.mem_toList_iff.1 hx⟩))
 case nilCheck x=>
  have hx:=hρ x (by simp[Op.operands])
  split at h<;>try cases h
  rename_i a ha;rw[ha]at hx;generalize Z' x=u at hx⊢;cases hx with
  |same _ h=>simp[bR]at h
  |ptr id off p hp=>exact⟨_,rfl,.ptr id off p hp⟩
 case binOp op t x y yt=>
  have hx:=hρ x (by simp[Op.operands])
  have hy:=hρ y (by simp[Op.operands])
  cases hp:(cK (Z x)&&cK (Z y))with
  |true=>
   simp only[hp,aI]at h;simp only[aC]at hp;rw[hx.eq1 hp.1,hy.eq1 hp.2];exact iG (kZ h)
  |false=>
   simp only[hp,aJ]at h;split at h<;>try cases h
   rename_i e hu;exact iG (aEF hx hy ⟨e,hu⟩ h)
 case unOp op t x=>
  have hx:=hρ x (by simp[Op.operands])
  cases hp:bR (Z x)with
  |true=>simp only[hp,aI]at h;rw[hx.eq0 hp];exact iG (kZ h)
  |false=>simp[hp]at h
 case convert s d x=>
  have hx:=hρ x (by simp[Op.operands])
  cases hp:bR (Z x)with
  |true=>simp only[hp,aI]at h;rw[hx.eq0 hp];exact iG (kZ h)
  |false=>simp[hp]at h
 case makeFunc fn first captured=>
  refine⟨.func fn (first.map Z') (captured.map Z'),rfl,?_⟩
  have h1:=Aw (Y:=Y) (Z:=Z) (Z':=Z') first.toList (λx hx=>hρ x (by simp[Op.operands];exact .inl (Array.mem_toList_iff.1 hx)))
  have h2:=Aw (Y:=Y) (Z:=Z) (Z':=Z') captured.toList (λx hx=>hρ x (by simp[Op.operands];exact .inr (Array.mem_toList_iff.1 hx)))
  exact .fn fn _ _ _ _ (by simp) (by simpa using h1.2) (by simp) (by simpa using h2.2)
 case fieldAddr s x f=>exact iG (Dg (hρ x (by simp[Op.operands])) h)
 case field t x f=>exact iG (Tg (hρ x (by simp[Op.operands])) h)
 case indexAddr t x i=>exact iG (Df (hρ x (by simp[Op.operands])) (hρ i (by simp[Op.operands])) h)
 case index t x i=>exact iG (Te (hρ x (by simp[Op.operands])) (hρ i (by simp[Op.operands])) h)
 case extract t i=>
  have hx:=hρ t (by simp[Op.operands])
  split at h<;>try cases h
  rename_i vs jv;rw[jv]at hx;obtain⟨us,he,hl⟩:=hx.tuple_inv;rw[he];obtain⟨u,hu,hr⟩:=hl.get (i:=i) (x:=v) (by simpa using h)
  refine iG ⟨u,?_,hr⟩;have:us[i]?=some u:=by simpa using hu
  simp[Instr.extract,this,bS]
 case call c=>
  unfold fV at h;have hargs:=Aw (Y:=Y) (Z:=Z) (Z':=Z') c.args.toList (λx hx=>hρ x (hX c x hx))
  split at h<;>try cases h
  .rename_i hc;split at h<;>try cases h
   rename_i t x ht hx;have lp:c.args.toList[0]?=some x:=by simpa using hx
   obtain⟨v',h1,h2⟩:=aEH (P:=P) (ts:=c.argTypes) (ty:=o.type) (us:=c.args.map Z') (hρ x (hX c x (List.mem_of_getElem? lp))) ht (by simp[hx]) h
   refine⟨v',?_,h2⟩;simp only[resolve,hc,bQ,bS,aL,invoke,builtin,h1]
  .rename_i hc;cases hp:(c.args.map Z).toList.all bR with
   |false=>rw[hp]at h;cases h
   |true=>
    simp only[hp,aI]at h;have e:c.args.map Z'=c.args.map Z:=by
     apply Array.toList_inj.1;simpa using hargs.eq0 (by simpa using hp)
    obtain⟨v',h1,h2⟩:=kZ (Y:=Y) h;refine⟨v',?_,h2⟩;simp only[resolve,hc,bQ,bS,aL,invoke,builtin,e,h1]
  .rename_i hc;cases hp:(c.args.map Z).toList.all bR with
   |false=>rw[hp]at h;cases h
   |true=>
    simp only[hp,aI]at h;have e:c.args.map Z'=c.args.map Z:=by
     apply Array.toList_inj.1;simpa using hargs.eq0 (by simpa using hp)
    obtain⟨v',h1,h2⟩:=kZ (Y:=Y) h;refine⟨v',?_,h2⟩;simp only[resolve,hc,bQ,bS,aL,invoke,builtin,e,h1]
end
end Go.AI
namespace Go.PI
open Go.AI
structure Dp(p p':PSt):Prop where
 next:p.next<=p'.next
 dirty: ∀id,id∈p.dirty->id∈p'.dirty
 wr: ∀id,id∈p.wr->id∈p'.wr
 mem: ∀k,k<p.next->k∉p'.dirty->p'.mem.get k=p.mem.get k
def Dp.refl(p:PSt):Dp p p:=⟨aS _,λ_ h=>h,λ_ h=>h,λ_ _ _=>rfl⟩
def Dp.trans{p p' p'':PSt}(h:Dp p p')(h':Dp p' p''):Dp p p'':=
 ⟨Nat.le_trans h.next h'.next,λid hi=>h'.dirty id (h.dirty id hi),λid hi=>h'.wr id (h.wr id hi),λk hk hd=>(h'.mem k (Nat.lt_of_lt_of_le hk h.next) hd).trans (h.mem k hk λhh=>hd (h'.dirty k hh))⟩
def lF{id:Nat}{l:List Nat}{k:Nat}:k∈CQ id l↔k=id∨k∈l:=by
 unfold CQ;cases h:l.contains id with
 |true=>
  simp only[aI];constructor
  .exact .inr
  .rintro(rfl|h')
   .simpa using h
   .exact h'
 |false=>simp[aJ]
def Dp.upd(p:PSt)(id:Nat)(o:jU):Dp p (p.upd id o):=
 ⟨aS _,λk hk=>lF.2 (.inr hk),λk hk=>lF.2 (.inr hk),λk _ hd=>by
  simp only[PSt.upd,Tr.get_set];rw[bH (λe=>hd (lF.2 (.inl e)))]⟩
def Dp.mark(p:PSt)(id:Nat)(o:jU):Dp p (p.mark id o):=
 ⟨aS _,λk hk=>lF.2 (.inr hk),λk hk=>hk,λk _ hd=>by
  simp only[PSt.mark,Tr.get_set];rw[bH (λe=>hd (lF.2 (.inl e)))]⟩
structure Adv(J:Nu)(I:Ga)(p:PSt)(H:St)(J':Nu)(I':Ga)(p':PSt)(H':St):Prop where
 keep:Keep J I H H'
 mon:Mon H J J'
 out:GoOut H I I'
 dp:Dp p p'
 rz: ∀a cs m,H.get a=some (.cells cs m)->∃cx b,H'.get a=some (.cells cx {m with tip:=b})
 bx: ∀id a,J id=some (some a)->id∉p'.wr->H'.get a=H.get a/\J' id=some (some a)
def Adv.refl(J:Nu)(I:Ga)(p:PSt)(H:St):Adv J I p H J I p H:=⟨.refl J I H,.refl H J,.refl H I,.refl p,λa cs m h=>⟨cs,m.tip,h⟩,λ_ _ h _=>⟨rfl,h⟩⟩
def Adv.trans{J J' J'':Nu}{I I' I'':Ga}{p p' p'':PSt}{H H' H'':St}(h:Adv J I p H J' I' p' H')(h':Adv J' I' p' H' J'' I'' p'' H''):Adv J I p H J'' I'' p'' H'':=
 ⟨h.keep.trans h.mon h'.keep h.out,h.mon.trans h'.mon h.keep.dom,h.out.trans h'.out h.keep.dom,h.dp.trans h'.dp,λa cs m e=>by
  obtain⟨cx,b,h1⟩:=h.rz a cs m e;obtain⟨ti,b',h2⟩:=h'.rz a cx _ h1;exact⟨ti,b',h2⟩,λid a hi hd=>by
  obtain⟨e1,e2⟩:=h.bx id a hi λhh=>hd (h'.dp.wr id hh)
  obtain⟨e3,e4⟩:=h'.bx id a e2 hd;exact⟨e3.trans e1,e4⟩⟩
def Adv.g{J:Nu}{I I':Ga}{p:PSt}{H:St}(g:GoOut H I I'):Adv J I p H J I' p H:=⟨.refl J I H,.refl H J,g,.refl p,λa cs m h=>⟨cs,m.tip,h⟩,λ_ _ h _=>⟨rfl,h⟩⟩
def jD(pc:fI)(ac:FuncId->Array Value->St->Option (Value×St)):Prop:=
 ∀g args p v own p',pc g args p=some (v,own,p')->∀(J:Nu) (I:Ga) (H:St) (us:Array Value),Mem J I p H->RL J H (args.map (·.1)) us.toList->
  (∀(i:Nat) (x:PV) (w:Value),args[i]?=some (x,true)->us.toList[i]?=some w->Ow J I H (.slot i) x w)->
  ∃u H' J' I',ac g us H=some (u,H')/\R J' H' v u/\(own=true->Ow J' I' H' .hand v u)/\Mem J' I' p' H'/\Adv J I p H J' I' p' H'/\∀j,j<H.next->H.get j=none->H'.get j=none
section
variable{P:Program}{J J':Nu}{I I1 I':Ga}{H H':St}{S:PS}{A:Slots}
def Mem.some_get{p:PSt}(M:Mem J I p H){id a:Nat}(h:J id=some (some a)):H.get a≠none:=by
 obtain⟨o,ho⟩:=M.live id a h;have:=M.get id o ho;cases o with
 |box cs=>obtain⟨a',us,h1,h2,_⟩:=this;rw[h]at h1;simp only[aA]at h1;subst h1;rw[h2];simp
 |row z ag cs=>obtain⟨a',us,h1,h2,_⟩:=this;rw[h]at h1;simp only[aA]at h1;subst h1;rw[h2];simp
 |map es=>exact this.elim
 |gone=>simp only[ObjR]at this;rw[h]at this;cases this
def Mem.no_tip{p:PSt}(M:Mem J I p H){id a:Nat}(h:J id=some (some a)){cs:List Value}{m:mX}(hg:H.get a=some (.cells cs m)):m.tip=false:=by
 obtain⟨o,ho⟩:=M.live id a h;have:=M.get id o ho;cases o with
 |box cx=>obtain⟨a',us,h1,h2,_⟩:=this;rw[h]at h1;simp only[aA]at h1;subst h1;rw[h2]at hg;simp only[aA,AObj.cells.injEq]at hg;obtain⟨_,rfl⟩:=hg;rfl
 |row z ag cx=>obtain⟨a',us,h1,h2,_⟩:=this;rw[h]at h1;simp only[aA]at h1;subst h1;rw[h2]at hg;simp only[aA,AObj.cells.injEq]at hg;obtain⟨_,rfl⟩:=hg;rfl
 |map es=>exact this.elim
 |gone=>simp only[ObjR]at this;rw[h]at this;cases this
def aKs{id:Nat}{o:AObj}(hf:H.get id=none): ∀a cs m,H.get a=some (.cells cs m)->∃cx b,(H.put id o).get a=some (.cells cx {m with tip:=b}):=
 λa cs m h=>⟨cs,m.tip,by rw[cA,bH (λe=>by rw[e,hf]at h;cases h)];exact h⟩
def vN(I:Ga):Ga:=λi=>match I i with
 |some (.cell id off)=>some (.cell id off)
 |some (.arg i)=>some (.slot i)
 |some _=>some .out
 |none=>none
def after(H:St)(I I':Ga):Ga:=λi=>match I i with
 |some (.cell _ _)=>I' i
 |some (.arg _)=>I' i
 |none=>I' i
 |some k=>if(H.get i).isNone=true then I' i else some k
def ML{i t:Nat}(h:I i=some (.slot t))(hn:H.get i≠none):after H I I' i=some (.slot t):=by cases e:H.get i with
 |none=>exact absurd e hn
 |some o=>simp[after,h,e]
def Tf{i:Nat}(h:I i=some .out)(hn:H.get i≠none):after H I I' i=some .out:=by cases e:H.get i with
 |none=>exact absurd e hn
 |some o=>simp[after,h,e]
def KK{i:Nat}{k:K}(h:I' i=some k)(hk:k≠ .out)(hg:GoOut H (vN I) I'):after H I I' i=some k:=by
 unfold after;split
 .exact h
 .exact h
 .exact h
 .rename_i k' bn hne2 gx;split
  .exact h
  .rename_i hn;have:vN I i=some .out:=by
    unfold vN;rw[gx];cases k'<;>first|rfl|exact absurd rfl (bn _ _)|exact absurd rfl (hne2 _)
   rw[hg i (λe=>hn (by rw[e];rfl)) this]at h
   simp only[aA]at h;exact absurd h.symm hk
def aEr{pc:fI}{ac:FuncId->Array Value->St->Option (Value×St)}(bm:jD pc ac){p p':PSt}(M:Mem J I p H)(F:FR J I H S A){g:Nat}{args:List (PV×Bool)}{us:Array Value}(hr:RL J H (args.map (·.1)) us.toList)
    (kg: ∀(i:Nat) (x:PV) (w:Value),args[i]?=some (x,true)->us.toList[i]?=some w->Ow J I H (.arg i) x w) {v:PV} {own:Bool} (h:pc g args p=some (v,own,p')):
    ∃u H' J' I',ac g us H=some (u,H')/\R J' H' v u/\Mem J' I' p' H'/\FR J' I' H' S A/\(own=true->Ow J' I' H' .hand v u)/\Adv J I p H J' I' p' H'/\∀j,j<H.next->H.get j=none->H'.get j=none:=by
 have Mc:Mem J (vN I) p H:=⟨M.le,M.lt,M.inj,M.live,λid o ho=>(M.get id o ho).g2 λi off hi=>by simp only[vN,hi],M.free,M.ver⟩
 obtain⟨u,H',J',I',h1,h2,h3,h4,h5,h6⟩:=bm g args p v own p' h J (vN I) H us Mc hr (λi x w hx hw=>(kg i x w hx hw).weak λj hj=>by simp only[vN,hj])
 refine⟨u,H',J',after H I I',h1,h2,?_,?_,λho=>(h3 ho).weak λi hi=>KK hi (by simp) h5.out,⟨?_,h5.mon,?_,h5.dp,h5.rz,h5.bx⟩,h6⟩
 .exact⟨h4.le,h4.lt,h4.inj,h4.live,λid o ho=>(h4.get id o ho).g2 λi off hi=>KK hi (by simp) h5.out,h4.free,h4.ver⟩
 .exact F.keep h5.keep h5.mon λi t hi hn=>⟨by simp only[vN,hi],ML hi hn⟩
 .exact h5.keep.weak λa ha=>by simp only[vN,ha]
 .exact λi hn hi=>Tf hi hn
def HZ{es:List PV}{bs:List UInt8}(h:jG es=some bs){us:List Value}(r:RL J H es us): ∃ns:List Int,us=ns.map (Value.int .u8)/\bs=ns.map (λn=>UInt8.ofNat n.toNat)/\AI.bytesOf us=some ns:=by
 induction es generalizing bs us with
 |nil=>simp only[jG,aA]at h;subst h;have:=r.nil_inv;subst this;exact⟨[],rfl,rfl,rfl⟩
 |cons x es ih=>
  unfold jG at h;split at h
  .cases ‹_::_=[]›
  .rename_i n rr e;cases e;rw[aF]at h;obtain⟨bs',h1,rfl⟩:=h;obtain⟨u,gm,rfl,hx,hr⟩:=r.cons_inv;cases hx;obtain⟨ns,rfl,rfl,h4⟩:=ih h1 hr;exact⟨n::ns,rfl,rfl,by simp only[AI.bytesOf,h4];rfl⟩
  .cases h
def C0{es:List PV}{bs:List UInt8}(h:jG es=some bs):eD es=es:=by
 induction es generalizing bs with
 |nil=>rfl
 |cons x es ih=>
  unfold jG at h;split at h
  .cases ‹_::_=[]›
  .rename_i n rr e;cases e;rw[aF]at h;obtain⟨bs',h1,_⟩:=h;have:=ih h1;simp only[eD,aN,PV.cells]at this⊢;rw[this];rfl
  .cases h
def SL(ns:List Int)(b:ByteArray):(ns.foldl (λr n=>r.push (UInt8.ofNat n.toNat)) b).data.toList=b.data.toList++ns.map (λn=>UInt8.ofNat n.toNat):=by
 induction ns generalizing b with
 |nil=>simp
 |cons n ns ih=>simp only[List.foldl_cons,ih,aO];simp[ByteArray.push]
def Sz{s d:TypeId}{x v:PV}{u:Value}(r:R J H x u)(h:wU P s d x=some v):
    ∃w,(match(bif bR u then cV P (convert s d u)else none)with|some y=>some y|none=>oP P H s d u)=some w/\R J H v w:=by
 unfold wU at h;split at h<;>try cases h
 rename_i e hs hd;split at h<;>try cases h
 rename_i he;split at h<;>try cases h
 rename_i es ll;rw[aF]at h;obtain⟨bs,hb,rfl⟩:=h;have re: ∀ns:List Int,bs=ns.map (λn=>UInt8.ofNat n.toNat)->R J H (.str bs) (.string (ns.foldl (λr n=>r.push (UInt8.ofNat n.toNat)) ByteArray.empty)):=by
  intro ns hn;have:=R.str (J:=J) (H:=H) (ns.foldl (λr n=>r.push (UInt8.ofNat n.toNat)) ByteArray.empty)
  rw[SL]at this;rw[hn];simpa using this
 have pk: ∃w,(match(bif bR (.slice none 0 0)then cV P (convert s d (.slice none 0 0))else none)with|some y=>some y|none=>oP P H s d (.slice none 0 0))=some w/\R J H (.str []) w:=by
  refine⟨.string ByteArray.empty,?_,.str ByteArray.empty⟩;have:cV P (convert s d (.slice none 0 0))=some (.string ByteArray.empty):=by
   simp only[cV,convert,bQ,bT,hs,hd,he,aL,Conv.bytesToString,bS];rfl
  simp only[bR,this];rfl
 rcases pN ll with⟨h1,rfl⟩|h1
 .simp only[jG,aA]at hb;subst hb;rcases h1 with rfl|rfl
  .cases r with
   |emp0=>exact pk
   |emp1 id off c rcs m hr=>
    refine⟨_,by simp only[bR,aJ,oP,hs,hd,he,hr.1,wB,AI.bytesOf,aK];rfl,?_⟩
    exact re [] rfl
   |emp2 b o s' c=>exact⟨_,by simp only[bR,aJ,oP,hs,hd,he];rfl,re [] rfl⟩
  .cases r;exact pk
 .subst h1;cases r with
  |sl _ _ id off c rcs m hz fy hr hm bv hh=>
   obtain⟨_,_,_,me,m',l,k1,k2,k3,k4,k5⟩:=EL (.sl 1 es id off c rcs m hz fy hr hm bv hh);rw[C0 hb]at k5;obtain⟨ns,rfl,h2,h3⟩:=HZ hb k5;rw[Nat.mul_one]at k4;exact⟨_,by simp only[bR,aJ,oP,hs,hd,he,k1.1,k4,h3,aK],re ns h2⟩
def IN{xs:List PV}{us:List Value}(r:RL J H xs us):RL J H ((pD xs).map (·.1)) us/\∀(i:Nat) (x:PV),(pD xs)[i]?≠some (x,true):=by
 induction xs generalizing us with
 |nil=>exact⟨r,λi x h=>by simp[pD]at h⟩
 |cons x xs ih=>
  obtain⟨u,gm,rfl,hx,hr⟩:=r.cons_inv;obtain⟨h1,h2⟩:=ih hr;refine⟨.cons hx.wk h1,λi y h=>?_⟩
  cases i with
  |zero=>simp[pD]at h
  |succ i=>simp only[pD,aT]at h;exact h2 i y h
def qD(xs:List PV):(pD xs).length=xs.length:=by
 induction xs with
 |nil=>rfl
 |cons x xs ih=>simp[pD,ih]
def V6(x:PV):Ff (PI.wk x)=false:=by
 cases x with
 |sl z es=>cases es<;>rfl
 |tup xs=>
  cases xs with
  |nil=>rfl
  |cons y ys=>
   show Ff (.tup (PI.wk y::wks ys))=false;cases y with
   |sl z es=>cases es<;>rfl
   |_=>rfl
 |_=>rfl
def aCE{x:PV}{xs:List PV}:Ff (.tup (x::xs))=match x with| .sl _ []=>true|_=>false:=by
 cases x with
 |sl z es=>cases es<;>rfl
 |_=>rfl
def Ow.wk{k:K}{x:PV}{u:Value}(o:Ow J I H k x u)(h:Ff x=false):Ow J I H k (wk x) u:=by
 induction o with
 |nil x=>exact .nil _
 |exact x _ _ _ rcs m hr=>exact .exact _ _ _ _ rcs m hr
 |zer x b o=>exact .zer _ b o
 |tip z es id off c rcs m hr ht hw hg hb hk=>
  cases es with
  |nil=>simp[Ff]at h
  |cons e es=>exact .tip z (e::es) id off c rcs m hr ht hw hg hb hk
 |tup x xs u us hx o ih=>
  refine .tup _ _ u us ?_ ?_
  .cases x with
   |sl z es=>cases es<;>rfl
   |agg _=>cases hx
   |tup _=>cases hx
   |und=>cases hx
   |_=>rfl
  cases o with
  |nil=>exact .nil _
  |exact _ _ _ _ rcs m hr=>exact .exact _ _ _ _ rcs m hr
  |zer _ b o=>exact .zer _ b o
  |tip z es id off c rcs m hr ht hw hg hb hk=>
   cases es with
   |nil=>simp[Ff]at h
   |cons e es=>exact .tip z (e::es) id off c rcs m hr ht hw hg hb hk
  |tup y ys v vs _ o'=>cases hx
def Vg{take:Bool}: ∀(xs:List Operand) (n:Nat) (I:Ga) (S:PS),FR J I H S A->xs.all (cI P)=true->RL J H ((kV take S xs).1.map (·.1)) (xs.map (ev A))/\
    ∃I',FR J I' H (kV take S xs).2 A/\(∀(i:Nat) (x:PV) (w:Value),(kV take S xs).1[i]?=some (x,true)->(xs.map (ev A))[i]?=some w->Ow J I' H (.arg (n+i)) x w)/\G2 I I'/\(∀i k,k<n->I i=some (.arg k)->I' i=some (.arg k)):=by
 intro xs;induction xs with
 |nil=>intro n I S F _;exact⟨.nil,I,F,λi x w h=>(by simp[kV]at h),.refl I,λ_ _ _ h=>h⟩
 |cons x xs ih=>
  intro n I S F hx;simp only[aP,aC]at hx;have rx:=cU F hx.1;cases take with
  |false=>
   obtain⟨h1,I',h2,h3,h4,h5⟩:=ih (n+1) I S F hx.2;refine⟨.cons rx.wk h1,I',h2,λi y w hy hw=>?_,h4,λi k hk hi=>h5 i k (by omega) hi⟩
   cases i with
   |zero=>simp[kV]at hy
   |succ i=>
    simp only[kV,aJ,aT]at hy;simp only[aO,aT]at hw;have:=h3 i y w hy hw;rw[show n+(i+1)=n+1+i by omega];exact this
  |true=>
   obtain⟨I0,F0,how,g0,ga⟩:=IS F x hx.1;have F1:FR J (PI.mv .hand (.arg n) I0) H (lK S x) A:=F0.g λi t hi=>by simp[PI.mv,hi]
   obtain⟨h1,I',h2,h3,h4,h5⟩:=ih (n+1) _ (lK S x) F1 hx.2;refine⟨.cons rx.wk h1,I',h2,λi y w hy hw=>?_,(g0.trans (.mv (by simp) (by simp))).trans h4,λi k hk hi=>?_⟩
   .cases i with
    |zero=>
     simp only[kV,aU,aA,aB]at hy;simp only[aO,aU,aA]at hw;obtain⟨rfl,hb⟩:=hy;subst hw;simp only[Bool.true_and,aC,Bool.not_eq_true']at hb;exact(((how hb.1).mv (k':= .arg n)).wk hb.2).weak λj hj=>h5 j n (by omega) hj
    |succ i=>
     simp only[kV,aI,aT]at hy;simp only[aO,aT]at hw;have:=h3 i y w hy hw;rw[show n+(i+1)=n+1+i by omega];exact this
   .exact h5 i k (by omega) (by simp[PI.mv,ga i k hi])
def aK4{pc:fI}{ac:FuncId->Array Value->St->Option (Value×St)}(bm:jD pc ac){p p':PSt}{base i:Nat}(M:Mem J I p H)(F:FR J I H S A)(hf:H.get (base+i)=none)(bh:base+i<H.next)
    {o:Oper} (ho:o.op.operands.all (cI P)=true) {sq take own:Bool} {v:PV} {S':PS} (h:DH P pc sq o take S p=some (v,own,S',p')):
    ∃u H' J' I',tY P ac base i o A H=some (u,H')/\R J' H' v u/\Mem J' I' p' H'/\FR J' I' H' S' A/\(own=true->Ow J' I' H' .hand v u)/\Adv J I p H J' I' p' H'/\
      (∀j,j<H.next->j≠base+i->H.get j=none->H'.get j=none):=by
 unfold DH at h;unfold tY;cases hk:cL o with
 |pure=>
  simp only[hk,aF,aB]at h;obtain⟨⟨v',ff,S''⟩,hp,rfl,rfl,rfl,rfl⟩:=h;unfold A8 at hp;split at hp
  .rename_i r hpp;simp only[aA]at hp;subst hp;obtain⟨u,I',h1,h2,h3,h4,h5⟩:=HW F ho hpp;exact⟨u,H,J,I',by simp only[oO,h1];rfl,h2,M.g2 h5,h3,h4,.g h5.out,λj _ _ hj=>hj⟩
  .cases sq with
   |false=>cases hp
   |true=>
    simp only[aI]at hp;obtain⟨dst,op,ty,pos,af,g⟩:=o;cases op<;>simp only at hp<;>try cases hp
    rename_i s d x;rw[aF]at hp;obtain⟨v2,hb,he⟩:=hp;simp only[aB]at he;obtain⟨rfl,rfl,rfl⟩:=he
    replace ho:=rU ho
    simp only[Op.operands,aP,List.all_nil,bE]at ho;obtain⟨w,h1,h2⟩:=Sz (cU F ho) hb;exact⟨w,H,J,I,by simp only[oO,iW,aF];exact⟨w,h1,rfl⟩,h2,M,F,λh=>(by cases h),.refl J I _ H,λj _ _ hj=>hj⟩
 |read=>
  simp only[hk,aF,aB]at h;obtain⟨⟨v',ff,p''⟩,hp,rfl,rfl,rfl,rfl⟩:=h;obtain⟨u,I',h1,h2,h3,h4,h5,h6⟩:=Vb M F ho hp;refine⟨u,H,J,I',by simp only[h1];rfl,h2,h3,h4,h5,⟨.refl J I H,.refl H J,h6,?_,λa cs m h=>⟨cs,m.tip,h⟩,λ_ _ h _=>⟨rfl,h⟩⟩,λj _ _ hj=>hj⟩
  obtain⟨dst,op,ty,pos,af,g⟩:=o;cases op with
  |load t a=>
   simp only[lJ]at hp;split at hp
   .rename_i v2 hv;cases hc:take&&Aa v2 with
    |false=>rw[hc,aJ]at hp;simp only[aA,aB]at hp;obtain⟨_,_,rfl⟩:=hp;exact .refl p
    |true=>
     rw[hc,aI]at hp;simp only[aA,aB]at hp;obtain⟨_,_,rfl⟩:=hp;unfold fK;split
     .split
      .split
       .exact .mark p _ _
       .exact .refl p
      .exact .refl p
     .exact .refl p
   .cases hp
  |slice t x lo hi mx=>
   simp only[lJ,aF,aB]at hp;obtain⟨_,_,_,_,rfl⟩:=hp;exact .refl p
  |_=>simp only[lJ]at hp;cases hp
 |alloc=>
  simp only[hk,aF,aB]at h;obtain⟨⟨v',ff,p''⟩,hp,rfl,rfl,rfl,rfl⟩:=h;obtain⟨u,ob,J',I',h1,h2,h3,h4,h5,h6,h7,h8,h9,h10,h11⟩:=SB M F hf bh ho hp;refine⟨u,H.put (base+i) ob,J',I',by simp only[h1];rfl,h2,h3,h4,h5,⟨(Keep.put hf).weak λ_ _=>rfl,h6,h7,⟨h8,λid hd=>by rw[h10.1];exact hd,λid hd=>by rw[h10.2];exact hd,λk hk _=>h11 k hk⟩,aKs hf,λid a hi _=>⟨by rw[cA,bH (λe=>M.some_get hi (by rw[e];exact hf))],by rw[h9 id (M.le _ _ hi)];exact hi⟩⟩,λj _ bn hj=>?_⟩
  rw[cA,bH bn];exact hj
 |eff=>
  simp only[hk]at h;simp only;obtain⟨dst,op,ty,pos,af,g⟩:=o
  replace ho:=rU ho
  cases op with
  |store t a x=>
   simp only[Op.operands,aP,List.all_nil,bE,aC]at ho;simp only[CZ,aF,aB]at h;obtain⟨p2,hp,rfl,rfl,rfl,rfl⟩:=h;obtain⟨I0,F0,how,g0⟩:=sU F x ho.2;obtain⟨H',I',h1,h2,h3,h4,h5,h6,h7,i0,a0,hi0,hd0,ho0⟩:=Sr (M.g2 g0) F0 (cU F ho.1) (cU F ho.2) how hp;refine⟨undef,H',J,I',by simp only[lY,h1];rfl,.und _,h2,h3,λh=>(by cases h),⟨h4.weak λa ha=>(g0 a).1 ha,.refl H J,g0.out.trans h5 (λ_ h=>h),?_,?_,λid a hi hd=>⟨ho0 a λe=>hd (by rw[M.inj id i0 a hi (by rw[e];exact hi0)];exact hd0),hi⟩⟩,?_⟩
   ·
    unfold mK at hp;split at hp
    .split at hp
     .rename_i cs n _ _;cases hc:Nat.beq (cP S x).cells.length n&&Nat.ble _ cs.length&&(cP S x).cells.all PV.one with
      |false=>rw[hc,aJ]at hp;cases hp
      |true=>rw[hc,aI]at hp;simp only[aA]at hp;subst hp;exact .upd p _ _
     .rename_i z ag cs n _ _;cases hc:Nat.beq (cP S x).cells.length n&&Nat.ble _ cs.length&&(cP S x).cells.all PV.one with
      |false=>rw[hc,aJ]at hp;cases hp
      |true=>rw[hc,aI]at hp;simp only[aA]at hp;subst hp;exact .upd p _ _
     .cases hp
    .cases hp
   .intro a' cs m hg;unfold gE at h1;split at h1
    .split at h1
     .rename_i cs2 m2 n bi _;cases hc:m2.wr&&Nat.beq (ev A x).cells.size n&&Nat.ble _ cs2.length&&(ev A x).cells.toList.all one with
      |false=>rw[hc,aJ]at h1;cases h1
      |true=>
       rw[hc,aI]at h1;split at h1
       .simp only[aA]at h1;subst h1;rw[cA];split
        .rename_i e;subst e;have:=(eI bi).1;rw[hg]at this;simp only[aA,AObj.cells.injEq]at this;obtain⟨_,rfl⟩:=this;exact⟨_,m.tip,rfl⟩
        .exact⟨cs,m.tip,hg⟩
       .rename_i gg vv hgg;cases hlm:m2.tip&&Nat.ble m2.lim _ with
        |true=>
         rw[hlm,aI]at h1;simp only[aA]at h1;subst h1;rw[cA];split
         .rename_i e;subst e;have:=(eI bi).1;rw[hg]at this;simp only[aA,AObj.cells.injEq]at this;obtain⟨_,rfl⟩:=this;exact⟨_,m.tip,rfl⟩
         .exact⟨cs,m.tip,hg⟩
        |false=>
        rw[hlm,aJ]at h1;simp only[aA]at h1;subst h1;exfalso;have hv:=h4.vers;have h0:=M.ver gg;have bf:=(eI bi).2;simp only[St.good,hgg]at bf;have hvv:=aE bf;have h0':=h2.ver gg;simp only[St.bump,St.ver,Tr.get_set,bO,Option.getD_some]at h0';omega
     .cases h1
    .cases h1
   .intro j hj bn hn;cases hh:H'.get j with
    |none=>rfl
    |some ob=>
     exfalso;unfold gE at h1;split at h1
     .split at h1
      .rename_i cs2 m2 n bi _;cases hc:m2.wr&&Nat.beq (ev A x).cells.size n&&Nat.ble _ cs2.length&&(ev A x).cells.toList.all one with
       |false=>rw[hc,aJ]at h1;cases h1
       |true=>
        rw[hc,aI]at h1;have dh: ∀k o,H.row k=some (cs2,m2)->(H.put k o).get j=some ob->False:=λk o bi hh=>by
         rw[cA]at hh;split at hh
         .rename_i e;rw[<-e]at bi;rw[(eI bi).1]at hn;cases hn
         .rw[hn]at hh;cases hh
        split at h1
        .simp only[aA]at h1;subst h1;exact dh _ _ bi hh
        .cases hlm:m2.tip&&Nat.ble m2.lim _ with
         |true=>rw[hlm,aI]at h1;simp only[aA]at h1;subst h1;exact dh _ _ bi hh
         |false=>
         rw[hlm,aJ]at h1;simp only[aA]at h1;subst h1;have:(H.put _ _).get j=some ob:=hh;rw[cA]at this;split at this
         .rename_i e;subst e;rw[(eI bi).1]at hn;cases hn
         .rw[hn]at this;cases this
      .cases h1
     .cases h1
  |call c=>
   obtain⟨callee,cargs,argTypes⟩:=c;simp only[Op.operands,Call.operands,Array.toList_append,List.all_append,aC]at ho;have hgen: ∀{g:Nat} {args:List (PV×Bool)},pW take S ⟨callee,cargs,argTypes⟩=some (g,args)->∃us I',gJ (ev A) ⟨callee,cargs,argTypes⟩=some (g,us)/\RL J H (args.map (·.1)) us.toList/\
          FR J I' H (kV take S cargs.toList).2 A/\(∀(i:Nat) (x:PV) (w:Value),args[i]?=some (x,true)->us.toList[i]?=some w->Ow J I' H (.arg i) x w)/\G2 I I':=by
    intro g' args hc;unfold pW at hc;split at hc
    .rename_i f pz;simp only at pz;subst pz;simp only[gJ];have hfo:cI P f=true:=by simpa using ho.1
     have rf:=cU F hfo;split at hc
     .rename_i gg first captured hpf
      simp only[aA,aB]at hc;obtain⟨rfl,rfl⟩:=hc;rw[hpf]at rf;generalize ev A f=w at rf;cases rf with
      |fn _ _ _ us vs hl hh dw hh'=>
       have h1:RL J H first us.toList:=⟨hl,hh⟩
       have h2:RL J H captured vs.toList:=⟨dw,hh'⟩;obtain⟨n1,n2⟩:=IN h1;obtain⟨m1,m2⟩:=IN h2;obtain⟨p1,I',p2,p3,p4,_⟩:=Vg (take:=take) cargs.toList first.length I S F ho.2
       have di:(kV take S cargs.toList).1.length=cargs.toList.length:=by have:=p1.1;simpa using this
       refine⟨_,I',rfl,?_,p2,λi x w hx hw=>?_,p4⟩
       .have:=n1.append (p1.append m1);simpa using this
       .simp only[Array.toList_append,Array.toList_map,aQ]at hw;rcases Nat.lt_or_ge i first.length with hi|hi
        .rw[List.getElem?_append_left (by rw[qD];exact hi)]at hx
         exact absurd hx (n2 i x)
        .rw[List.getElem?_append_right (by rw[qD];exact hi),qD]at hx
         rw[List.getElem?_append_right (by rw[<-h1.1];exact hi),<-h1.1]at hw
         rcases Nat.lt_or_ge (i-first.length) cargs.toList.length with hj|hj
         .rw[List.getElem?_append_left (by rw[di];exact hj)]at hx
          rw[List.getElem?_append_left (by rw[List.length_map];exact hj)]at hw
          have:=p3 _ x w hx hw;rw[show first.length+(i-first.length)=i by omega]at this
          exact this
         .rw[List.getElem?_append_right (by rw[di];exact hj)]at hx
          exact absurd hx (m2 _ x)
     .cases hc
    .cases hc
   cases callee with
   |builtin b=>
    cases b with
    |append=>
     simp only[CZ]at h;simp only[lY];split at h
     .rename_i s x hargs;simp only[hargs]at ho⊢;simp only[aP,List.all_nil,bE,aC]at ho;simp only[aF,aB]at h;obtain⟨⟨v',ff,S''⟩,hp,rfl,rfl,rfl,rfl⟩:=h;obtain⟨u,H',I',h1,h2,h3,h4,h5,h6,h7,h8⟩:=Lw M F hf bh ho.2.1 ho.2.2 hp;have bc: ∀j,H'.get j=H.get j∨j=base+i∨(∃cs m b,(H.get j=some (.cells cs m)/\m.tip=true)/\H'.get j=some (.cells cs {m with tip:=b})):=by
       intro j;unfold fS at h1;split at h1
       .split at h1
        .rename_i e d _ _;cases hc:BJ d (ev A x)with
         |false=>rw[hc,aJ]at h1;cases h1
         |true=>
          rw[hc,aI]at h1;split at h1
          .rename_i info _;split at h1
           .rename_i n xs z _ _;cases hc2:xs.all one&&Nat.ble 1 info.size&&Nat.ble 1 info.bytes&&Nat.beq z.cells.size info.size&&eT (ev A s)with
            |false=>rw[hc2,aJ]at h1;cases h1
            |true=>
             rw[hc2,aI]at h1;cases hc3:Nat.beq n 0 with
             |true=>rw[hc3,aI]at h1;simp only[aA,aB]at h1;obtain⟨_,rfl⟩:=h1;exact .inl rfl
             |false=>
              rw[hc3,aJ]at h1;have dh: ∀o,(H.put (base+i) o).get j=H.get j∨j=base+i∨(∃cs m b,(H.get j=some (.cells cs m)/\m.tip=true)/\(H.put (base+i) o).get j=some (.cells cs {m with tip:=b})):=λo=>by
               rw[cA];by_cases e:j=base+i
               .exact .inr (.inl e)
               .rw[bH e];exact .inl rfl
              unfold gX at h1;split at h1
              .cases hc4:Nat.ble (n*info.bytes) 1073741824 with
               |false=>rw[hc4,aJ]at h1;cases h1
               |true=>rw[hc4,aI]at h1;simp only[aA,aB]at h1;obtain⟨_,rfl⟩:=h1;exact dh _
              .rename_i id off len k _;cases hc4:Nat.ble ((len+n)*info.bytes) 1073741824 with
               |false=>rw[hc4,aJ]at h1;cases h1
               |true=>
                rw[hc4,aI]at h1;split at h1
                .rename_i cs m bi;split at h1
                 .rename_i old _;cases hc5:Nat.beq k len with
                  |true=>rw[hc5,aI]at h1;simp only[aA,aB]at h1;obtain⟨_,rfl⟩:=h1;exact dh _
                  |false=>
                   rw[hc5,aJ]at h1;cases hc6:m.tip&&m.wr&&Nat.beq m.z info.size&&Nat.beq (off+len*info.size) cs.length&&m.grp.isSome with
                   |false=>rw[hc6,aJ]at h1;cases h1
                   |true=>
                    rw[hc6,aI]at h1;simp only[aA,aB]at h1;obtain⟨_,rfl⟩:=h1;rw[cA];by_cases e:j=base+i
                    .exact .inr (.inl e)
                    .rw[bH e,cA];by_cases e2:j=id
                     .subst e2;rw[bI rfl];exact .inr (.inr ⟨cs,m,false,⟨(eI bi).1,by simp only[aC]at hc6;exact hc6.1.1.1.1⟩,rfl⟩)
                     .rw[bH e2];exact .inl rfl
                 .cases h1
                .cases h1
              .rename_i b0 o0 s0 l0 k0 _;cases hc4:Nat.beq s0 1&&Nat.ble (n*info.bytes) 1073741824 with
               |false=>rw[hc4,aJ]at h1;cases h1
               |true=>rw[hc4,aI]at h1;simp only[aA,aB]at h1;obtain⟨_,rfl⟩:=h1;exact dh _
              .cases h1
           .cases h1
          .cases h1
        .cases h1
       .cases h1
      refine⟨u,H',J,I',h1,h2,h3,h4,h5,⟨h6,.refl H J,h7,.refl p,λa cs m hg=>?_,λid a hi _=>⟨?_,hi⟩⟩,λj hj bn hn=>?_⟩
      .rcases bc a with e|e|⟨cx,m',b,e1,e2⟩
       .exact⟨cs,m.tip,by rw[e];exact hg⟩
       .subst e;rw[hf]at hg;cases hg
       .rw[hg]at e1;simp only[aA,AObj.cells.injEq]at e1;obtain⟨⟨rfl,rfl⟩,_⟩:=e1;exact⟨_,b,e2⟩
      .rcases bc a with e|e|⟨cx,m',b,e1,e2⟩
       .exact e
       .exact absurd (e▸hf) (M.some_get hi)
       .exfalso;have:=M.no_tip hi e1.1;rw[e1.2]at this;cases this
      .rcases bc j with e|e|⟨cx,m',b,e1,e2⟩
       .rw[e];exact hn
       .exact absurd e bn
       .rw[hn]at e1;cases e1.1
     .cases h
    |_=>simp only[CZ,pW]at h;cases h
   |invoke r m=>simp only[CZ,pW]at h;cases h
   |value f=>
    simp only[CZ]at h;simp only[lY];split at h
    .rename_i g' args hc;obtain⟨us,I1,hu,hrl,F1,kg,g1⟩:=hgen hc;simp only[hu];simp only[aF,aB]at h;obtain⟨⟨v',ff,p2⟩,hp,rfl,rfl,rfl,rfl⟩:=h;obtain⟨u,H',J',I',h1,h2,h3,h4,h5,h6,h7⟩:=aEr bm (M.g2 g1) F1 hrl kg hp;exact⟨u,H',J',I',h1,h2,h3,h4,h5,(Adv.g g1.out).trans h6,λj hj _ hn=>h7 j hj hn⟩
    .cases h
  |_=>simp only[CZ]at h;cases h
end
end Go.PI
namespace Go.PI
open Go.AI
structure Qt(H H':St):Prop where
 vers:H'.vers=H.vers
 get: ∀a ob,H.get a=some ob->H'.get a=some ob∨∃cs m b,ob= .cells cs m/\m.tip=true/\H'.get a=some (.cells cs {m with tip:=b})
def Qt.refl(H:St):Qt H H:=⟨rfl,λa ob h=> .inl h⟩
def Qt.bx{J:Nu}{I:Ga}{H H':St}{p:PSt}(q:Qt H H')(M:Mem J I p H){id a:Nat}(h:J id=some (some a)):H'.get a=H.get a:=by
 cases e:H.get a with
 |none=>exact absurd e (M.some_get h)
 |some ob=>
  rcases q.get a ob e with e1|⟨cs,m,b,e1,e2,_⟩
  .exact e1
  .subst e1;rw[M.no_tip h e]at e2;cases e2
def Tr.setF_setF{N:Type}: ∀(f:Nat) (t:Tr N) (n:Nat) (x y:N),Tr.setF f (Tr.setF f t n x) n y=Tr.setF f t n y:=by
 intro f;induction f with
 |zero=>intro t n x y;rfl
 |succ f ih=>
  intro t n x y;cases t with
  |nil=>
   simp only[Tr.setF];cases h:Nat.beq n 0 with
   |true=>simp only[aI,Tr.setF,h]
   |false=>
    simp only[aJ];cases h2:Nat.beq (n%2) 1 with
    |true=>simp only[aI,Tr.setF,h,h2,aJ,ih]
    |false=>simp only[aJ,Tr.setF,h,h2,ih]
  |node v l r=>
   simp only[Tr.setF];cases h:Nat.beq n 0 with
   |true=>simp only[aI,Tr.setF,h]
   |false=>
    simp only[aJ];cases h2:Nat.beq (n%2) 1 with
    |true=>simp only[aI,Tr.setF,h,h2,aJ,ih]
    |false=>simp only[aJ,Tr.setF,h,h2,ih]
def Tr.set_set{N:Type}(t:Tr N)(n:Nat)(x y:N):Tr.set (Tr.set t n x) n y=Tr.set t n y:=Tr.setF_setF _ t n x y
def aB2(H:St)(id:Nat)(a b:AObj):(H.put id a).put id b=H.put id b:=by
 simp only[St.put,Tr.set_set]
section
variable{P:Program}{J J':Nu}{I I1 I':Ga}{H H':St}{S:PS}{A:Slots}
def MK{p:PSt}{id z bytes:Nat}(M:Mem J I p H)(F:FR J I H S A)(hf:H.get id=none)(bh:id<H.next)(hz1:1<=z){x:PV}{w:Value}{es:List PV}(ll:mQ z x=some es)(rs:R J H x w)(how:Ow J I H .hand x w):
    ∃old Hc m,RL J Hc (eD es) old/\(∀n vals,Nat.ble ((es.length+n)*bytes) 1073741824=true->gX H id z bytes n vals w=some (.slice (some ⟨id,0,none⟩) (es.length+n) (es.length+n+1),Hc.put id (.cells (old++vals) m)))/\
      (∀e∈es,e.cells.length=z/\e.cells.all PV.pur=true)/\Mem J I p Hc/\FR J I Hc S A/\Hc.get id=none/\Hc.next=H.next/\m.z=z/\m.tip=true/\m.wr=true/\m.grp.isSome=true/\Hc.good m=true/\m.lim<=old.length/\
      Keep J I H Hc/\Qt H Hc/\old.length=es.length*z/\(∀j,H.get j=none->Hc.get j=none):=by
 have hgt:=Pa M z id;rcases pN ll with⟨h1,rfl⟩|h1
 .have rse:R J H .emp w:=by
   rcases h1 with rfl|rfl
   .exact rs
   .cases rs;exact .emp0
  have lb:Ow J I H .hand .emp w∨w= .slice none 0 0:=by
   rcases h1 with rfl|rfl
   .exact .inl how
   .right;cases rs;rfl
  refine⟨[],H,fW z id,.nil,λn vals db=>?_,λe he=>by simp at he,M,F,hf,rfl,rfl,rfl,rfl,rfl,hgt,aS _,.refl J I H,.refl H,by simp,λ_ h=>h⟩
  simp only[aX,Nat.zero_add]at db⊢;cases rse with
  |emp0=>simp only[gX,db,aI];rfl
  |emp1 id0 off c rcs m hr=>
   have:c=0:=by
    rcases lb with how|how
    .cases how;rfl
    .cases how
   subst this;simp only[gX,Nat.zero_add,db,aI,hr.1,Nat.zero_mul,wB];rfl
  |emp2 b o s' c=>
   rcases lb with how|how
   .cases how;have hq:(Nat.beq 1 1&&Nat.ble (n*bytes) 1073741824)=true:=by rw[db];rfl
    simp only[gX,hq,aI];rfl
   .cases how
 .subst h1;obtain⟨id0,off,cc,rcs,m,l,hw,hr,ku,hb,hl,hrl,mq⟩: ∃id0 off cc rcs m l,w= .slice (some ⟨id0,off,none⟩) es.length cc/\Fz J H id0 rcs m/\m.z=z/\off+es.length*z<=rcs.length/\cut rcs off (es.length*z)=some l/\RL J H (eD es) l/\(∀e∈es,e.cells.length=z/\e.cells.all PV.pur=true):=by
   cases rs with
   |sl _ _ id0 off cc rcs m hz hs hr hm hb hh=>
    obtain⟨_,_,fy,me,m',l,k1,k2,k3,k4,k5⟩:=EL (.sl z es id0 off cc rcs m hz hs hr hm hb hh);exact⟨id0,off,cc,me,m',l,rfl,k1,k2,k3,k4,k5,fy⟩
  have hll:l.length=es.length*z:=by rw[<-hrl.1,gW (λe he=>(mq e he).1)]
  subst hw;by_cases gp:cc=es.length
  .refine⟨l,H,fW z id,hrl,λn vals db=>?_,mq,M,F,hf,rfl,rfl,rfl,rfl,rfl,hgt,Nat.zero_le _,.refl J I H,.refl H,hll,λ_ h=>h⟩
   rw[gp];simp only[gX,db,aI,hr.1,hl];rw[show Nat.beq es.length es.length=true by simp[cQ]]
   rfl
  .cases how with
   |exact=>exact absurd rfl gp
   |tip z0 es0 _ _ _ rcs2 m2 hr2 ht fq hg hb2 hk=>
    have:rcs2=rcs/\m2=m:=by have:=hr2.1;rw[hr.1]at this;simp only[aA,aB]at this;exact⟨this.1.symm,this.2.symm⟩
    obtain⟨rfl,rfl⟩:=this;obtain⟨bc,bf⟩:=eI hr.1;have hii:id0≠id:=λe=>by rw[e,hf]at bc;cases bc
    have kp:Keep J (λi=>if i=id0 then none else some .out) H (H.put id0 (.cells rcs2 {m2 with tip:=false})):=by
     refine⟨rfl,aS _,λa ha=>?_,λa hn cs m bp=>?_⟩
     .rw[cA]at ha;split at ha
      .cases ha
      .exact ha
     .by_cases e:a=id0
      .subst e;rw[bc]at bp;simp only[aA,AObj.cells.injEq]at bp;obtain⟨rfl,rfl⟩:=bp;refine⟨false,by rw[cA,bI rfl],λ_=>rfl,λh=>?_⟩
       simp at h
      .exact⟨m.tip,by rw[cA,bH e];exact bp,λh=>h,λ_=>rfl⟩
    have se: ∀i k,I i=some k->k≠ .hand->(if i=id0 then none else some K.out)=some K.out:=λi k hi gx=>by
     rw[bH];intro e;rw[e,hk]at hi;simp only[aA]at hi;exact gx hi.symm
    refine⟨l,H.put id0 (.cells rcs2 {m2 with tip:=false}),{m2 with lim:=l.length},hrl.keep kp (.refl H J),λn vals db=>?_,mq,?_,F.keep kp (.refl H J) λi t hi _=>⟨se i _ hi (by simp),hi⟩,
     by rw[cA,bH (Ne.symm hii)];exact hf,rfl,ku,ht,fq,hg,bf,aS _,kp.weak λa ha=>se a _ ha (by simp),?_,hll,λj hj=>by rw[cA,bH (λe=>by rw[e,bc]at hj;cases hj)];exact hj⟩
    .simp only[gX,db,aI,hr.1,hl];rw[show Nat.beq cc es.length=false by rw[cQ];simp[gp]]
     simp only[aJ];rw[show(m2.tip&&m2.wr&&Nat.beq m2.z z&&Nat.beq (off+es.length*z) rcs2.length&&m2.grp.isSome)=true by
      rw[ku]at hb2;simp only[ht,fq,hg,cQ,ku,hb2,bM,Bool.and_self]]
     rfl
    .refine⟨M.le,M.lt,M.inj,M.live,λk o gx=>?_,λa ha=>?_,M.ver⟩
     .refine(M.get k o gx).keep kp (.refl H J) rfl (λa ha=>?_) λi fh hi _=>⟨se i _ hi (by simp),hi⟩
      rw[cA,bH (λe=>hr.2 k (by rw[<-e];exact ha))]
     .rw[cA,bH (λe=>by subst e;rw[M.free a ha]at bc;cases bc)];exact M.free a ha
    .refine⟨rfl,λa ob bp=>?_⟩
     rw[cA];by_cases e2:a=id0
     .subst e2;rw[bc]at bp;simp only[aA]at bp;subst bp;rw[bI rfl];exact .inr ⟨rcs2,m2,false,rfl,ht,rfl⟩
     .rw[bH e2];exact .inl bp
def sF{a:Nat}{x:Operand}(h:Gy a x=false)(u:Value):ev (A.store (some a) u) x=ev A x:=by
 cases x with
 |tmp t=>
  simp only[Gy,cQ,bC]at h;simp only[ev,Slots.store,Ax];rw[bH (λe=>h e.symm)]
 |_=>rfl
def R.pin_of{z:Nat}{fs:List PV}{v:Value}(h:R J H (.sl z fs) v){id len cap:Nat}(e:v= .slice (some ⟨id,0,none⟩) len cap)(k:Nat):R J H (.pin fs k 0) (.pointer (some ⟨id,0+k*z,none⟩)):=by
 cases h with
 |sl _ _ id' off c rcs m hz hs hr hm hb h=>
  simp only[Value.slice.injEq,aA,Addr.mk.injEq]at e;obtain⟨⟨rfl,rfl,_⟩,_,_⟩:=e;exact R.pin z fs k 0 id' 0 rcs m hs hr hb h
def IC{ac:FuncId->Array Value->St->Option (Value×St)}{p:PSt}{base:Nat}{oA oI oS:Oper}{iA iI iS:Nat}(M:Mem J I p H)(F:FR J I H S A)(hf:H.get (base+iA)=none)(bh:base+iA<H.next)
    (hA:oA.op.operands.all (cI P)=true) (hI:oI.op.operands.all (cI P)=true) (hS:oS.op.operands.all (cI P)=true) {S':PS} (h:DJ P S oA oI oS=some S'):
    ∃u1 u2 H1 H2 I',lY P ac H (ev A) oA (base+iA)=some (u1,H1)/\iW P (ev (A.store oA.dst u1)) oI=some u2/\lY P ac H1 (ev ((A.store oA.dst u1).store oI.dst u2)) oS (base+iS)=some (undef,H2)/\
      cL oA= .eff/\cL oI= .pure/\cL oS= .eff/\oA.guard=none/\oI.guard=none/\oS.guard=none/\oS.dst=none/\mM oA=true/\
      Mem J I' p H2/\FR J I' H2 S' ((A.store oA.dst u1).store oI.dst u2)/\Adv J I p H J I' p H2/\Qt H H1/\Qt H H2/\H1.next=H.next/\(∀j,j≠base+iA->H.get j=none->H1.get j=none/\H2.get j=none):=by
 obtain⟨dA,opA,tyA,posA,afA,gA⟩:=oA;obtain⟨dI,opI,tyI,posI,afI,gI⟩:=oI;obtain⟨dS,opS,tyS,posS,afS,gS⟩:=oS;unfold DJ at h;split at h
 .rename_i c a t1 a' n b t2 b' x e1 e2 e3 e4 e5 e6;simp only at e1 e2 e3 e4 e5 e6;subst e1 e2 e3 e4 e5 e6;obtain⟨callee,cargs,ats⟩:=c;split at h
  .rename_i s zz ec ea;simp only at ec ea;subst ec;cases hc:Nat.beq a a'&&Nat.beq b b'&& !Nat.beq a b&& !Gy a n&& !Gy a x&& !Gy b x&&gA.isNone&&gI.isNone&&gS.isNone with
   |false=>rw[hc,aJ]at h;cases h
   |true=>
    rw[hc,aI]at h;simp only[aC,Bool.not_eq_true',Option.isNone_iff_eq_none]at hc;obtain⟨⟨⟨⟨⟨⟨⟨⟨ha,hb⟩,hab⟩,hn⟩,hxa⟩,hxb⟩,hgA⟩,hgI⟩,hgS⟩:=hc;have ha:=aE ha;subst ha;have hb:=aE hb;subst hb;have hab:a≠b:=by intro e;rw[e]at hab;simp[cQ]at hab
    subst hgA hgI hgS;rw[aF]at h;obtain⟨v,hv,rfl⟩:=h
    replace hA:=rU hA
    replace hI:=rU hI
    replace hS:=rU hS
    simp only[Op.operands,Call.operands,Array.toList_append,List.all_append,aC,ea,aP,List.all_nil,bE]at hA;simp only[Op.operands,aP,List.all_nil,bE,aC]at hI hS;unfold PY at hv;split at hv
    .rename_i t tz jy;split at hv
     .rename_i e d he hd;split at hv
      .rename_i info ag hi kd;split at hv
       .rename_i es y zv kk k ll mo qy hk;cases hc2:Nat.ble 1 info.size&&Nat.ble 1 info.bytes&&Nat.beq zv.cells.size info.size&&gZ S s&&Nat.ble ((es.length+1)*info.bytes) 1073741824&&Nat.beq t1 t&&Nat.beq t2 e&&decide (k=(es.length:Int))&&shape ag info.size (cP S x)with
        |false=>rw[hc2,aJ]at hv;cases hv
        |true=>
         rw[hc2,aI]at hv;simp only[aA]at hv;subst hv;simp only[aC,aD]at hc2;obtain⟨⟨⟨⟨⟨⟨⟨⟨c1,c2⟩,c3⟩,c4⟩,c5⟩,c6⟩,c7⟩,c8⟩,c9⟩:=hc2;have c6:=aE c6;subst c6;have c7:=aE c7;subst c7;subst c8;have hz1:=bP c1;obtain⟨zvals,hz2,hz3,hz4,hz5⟩:=A7 (cU F hA.2.2) hz1 mo;obtain⟨I0,F0,how,g0⟩:=sU F s hA.2.1;have M0:=M.g2 g0;obtain⟨old,Hc,m,k1,k2,k3,k4,k5,k6,k7,k8,k9,aXK,aXJ,aXI,a3R,k14,k15,aTS,a08⟩:=MK (bytes:=info.bytes) M0 F0 hf bh hz1 ll (cU F hA.2.1) (how c4);have hag1:=k2 1 zvals c5;have np:zvals.length=info.size:=by
          rw[<-hz3.1];simp only[eD,aN,bB,bA];exact(hz4 y (by simp)).1
         have gw:zvals.all one=true:=hz3.one (by
          simp only[eD,aN,bB,bA];exact rR (hz4 y (by simp)).2)
         have cr:eT (ev A s)=true:=by
          have rs:=cU F hA.2.1;rcases pN ll with⟨h1|h1,_⟩|h1<;>rw[h1]at rs<;>generalize ev A s=w at rs<;>cases rs<;>rfl
         have jy:ats.toList=[t1,tz]:=jy;have hap:fS P H (base+iA) ⟨.builtin .append,cargs,ats⟩ (ev A s) (ev A zz)=some (.slice (some ⟨base+iA,0,none⟩) (es.length+1) (es.length+1+1),Hc.put (base+iA) (.cells (old++zvals) m)):=by
          unfold fS;simp only[jy,he,hd,hi,hz5,aI,hz2,qy];rw[show(zvals.all one&&Nat.ble 1 info.size&&Nat.ble 1 info.bytes&&Nat.beq zv.cells.size info.size&&eT (ev A s))=true by
           simp only[gw,c1,c2,c3,cr,Bool.and_self]]
          exact hag1
         obtain⟨xl,xp⟩:=rJ c9;have rx:=cU F hS.2;have hxc:=rx.cells (rR xp);have pd:(ev A x).cells.toList.length=info.size:=by rw[<-hxc.1,xl]
         have cq:gC P t2=some info.size:=by simp only[gC,hi];rfl
         have hwx:(wk (cP S x)).cells.length=info.size:=by rw[lH,jL,xl]
         have nq:RL J Hc (eD [wk (cP S x)]) (ev A x).cells.toList:=by
          simp only[eD,aN,bB,bA];rw[lH];exact hxc.wks.keep k14 (.refl H J)
         obtain⟨I',j1,j2,j3,j4,j5,j6⟩:=BB (m:=m) (xs:=[wk (cP S x)]) k4 k5 k6 (by rw[k7];exact bh) hz1 (λq hq=>by
          rcases List.mem_append.1 hq with hq|hq
          .exact k3 q hq
          .simp only[List.mem_singleton]at hq;subst hq;exact⟨hwx,by rw[lH];exact Ai xp⟩) k1 nq k8 k9 aXK aXJ aXI (es.length+1+1) (by simp)
         have lg:dD info.size (es++ [wk (cP S x)])= .sl info.size (es++ [wk (cP S x)]):=by
          cases hh:es++ [wk (cP S x)]with
          |nil=>simp at hh
          |cons q l=>rfl
         rw[lg]at j1 j4;have ci:gE P (Hc.put (base+iA) (.cells (old++zvals) m)) t2 (.pointer (some ⟨base+iA,0+es.length*info.size,none⟩)) (ev A x)=some (Hc.put (base+iA) (.cells (old++(ev A x).cells.toList) m)):=by
          have bi:(Hc.put (base+iA) (.cells (old++zvals) m)).row (base+iA)=some (old++zvals,m):=row_of_get (by rw[cA,bI rfl]) aXI
          simp only[gE,bi,cq];rw[show(m.wr&&Nat.beq (ev A x).cells.size info.size&&Nat.ble (0+es.length*info.size+info.size) (old++zvals).length&&(ev A x).cells.toList.all one)=true by
           rw[hxc.one (rR xp),cQ,qX];simp only[Array.length_toList]at pd;simp only[aXK,pd,bM,bE,Bool.true_and,aD,aZ,np,aTS];omega]
          simp only[aI];have dh:eA (old++zvals) (0+es.length*info.size) (ev A x).cells.toList=old++(ev A x).cells.toList:=by
           rw[A5 _ _ _ (by simp only[aZ,np,aTS,pd];omega),Nat.zero_add,<-aTS,List.take_left',pd]
           .rw[List.drop_eq_nil_of_le (by simp only[aZ,np];omega),bA]
           .rfl
          rw[dh];obtain⟨⟨g,v⟩,hgv⟩:=Option.isSome_iff_exists.1 aXJ;rw[hgv];simp only;rw[show(m.tip&&Nat.ble m.lim (0+es.length*info.size))=true by rw[k9,qX];simp only[Bool.true_and,aD];omega]
          simp only[aI,aB2]
         have hq1:Qt H (Hc.put (base+iA) (.cells (old++zvals) m)):=⟨k15.vers,λq ob hq=>by
          rw[cA,bH (λe=>by rw[e,hf]at hq;cases hq)];exact k15.get q ob hq⟩
         have hq2:Qt H (Hc.put (base+iA) (.cells (old++(ev A x).cells.toList) m)):=⟨k15.vers,λq ob hq=>by
          rw[cA,bH (λe=>by rw[e,hf]at hq;cases hq)];exact k15.get q ob hq⟩
         obtain⟨I1,F1,g1⟩:=j3.put (d:=some a) j1 (λ_=>j4)
         have hpin:R J (Hc.put (base+iA) (.cells (old++(ev A x).cells.toList) m)) (Sx (.sl info.size (es++ [wk (cP S x)]))) (.pointer (some ⟨base+iA,0+es.length*info.size,none⟩)):=by
          have hle:(es++ [wk (cP S x)]).length-1=es.length:=by simp
          simp only[Sx,hle];exact R.pin_of j1 rfl es.length
         obtain⟨I2,F2,g2⟩:=F1.put (d:=some b) (v:=Sx (.sl info.size (es++ [wk (cP S x)]))) (u:= .pointer (some ⟨base+iA,0+es.length*info.size,none⟩)) (own:=false) hpin (λh=>by cases h)
         refine⟨.slice (some ⟨base+iA,0,none⟩) (es.length+1) (es.length+1+1),.pointer (some ⟨base+iA,0+es.length*info.size,none⟩),_,_,I2,?_,?_,?_,rfl,rfl,rfl,rfl,rfl,rfl,rfl,rfl,(j2.g2 g1).g2 g2,F2,⟨?_,.refl H J,?_,.refl p,?_,λ_ _ hi _=>⟨hq2.bx M hi,hi⟩⟩,hq1,hq2,k7,λj hj hn=>?_⟩
         .simp only[lY,ea];exact hap
         .simp only[iW];have hnk:ev (A.store (some a) (.slice (some ⟨base+iA,0,none⟩) (es.length+1) (es.length+1+1))) n= .int kk (es.length:Int):=by
           rw[sF hn];have rn:=cU F hI.2;rw[hk]at rn;generalize ev A n=w at rn;cases rn;rfl
          have hak:ev (A.store (some a) (.slice (some ⟨base+iA,0,none⟩) (es.length+1) (es.length+1+1))) (.tmp a)= .slice (some ⟨base+iA,0,none⟩) (es.length+1) (es.length+1+1):=by
           simp only[ev,Slots.store,Ax,bO]
          rw[hnk,hak];simp only[fF,he,cq];rw[show bV (es.length:Int) (es.length+1)=true by simp only[bV,aC,aD];omega]
          simp only[aI,Int.toNat_natCast]
         .simp only[lY];have hx1:ev ((A.store (some a) (.slice (some ⟨base+iA,0,none⟩) (es.length+1) (es.length+1+1))).store (some b) (.pointer (some ⟨base+iA,0+es.length*info.size,none⟩))) x=ev A x:=by
           rw[sF hxb,sF hxa]
          have hb1:ev ((A.store (some a) (.slice (some ⟨base+iA,0,none⟩) (es.length+1) (es.length+1+1))).store (some b) (.pointer (some ⟨base+iA,0+es.length*info.size,none⟩))) (.tmp b)= .pointer (some ⟨base+iA,0+es.length*info.size,none⟩):=by
           simp only[ev,Slots.store,Ax,bO]
          rw[hx1,hb1,ci];rfl
         .have:=Keep.trans (I:=I0) k14 (.refl H J) (j5.weak (I:=I0) λ_ _=>rfl) (.refl H I0)
          exact this.weak λq hq=>(g0 q).1 hq
         .exact((g0.out (H:=H)).trans j6 (λq hq=>k14.dom q hq)).trans ((g1.trans g2).out (H:=H)) (λ_ h=>h)
         .intro q cs mm hq;rcases hq2.get q _ hq with e|⟨cx,m',b',e1,_,e2⟩
          .exact⟨cs,mm.tip,e⟩
          .simp only[AObj.cells.injEq]at e1;obtain⟨rfl,rfl⟩:=e1;exact⟨_,b',e2⟩
         .have hc0:=a08 j hn;exact⟨by rw[cA,bH hj];exact hc0,by rw[cA,bH hj];exact hc0⟩
       .cases hv
      .cases hv
     .cases hv
    .cases hv
  .cases h
 .cases h
end
end Go.PI
