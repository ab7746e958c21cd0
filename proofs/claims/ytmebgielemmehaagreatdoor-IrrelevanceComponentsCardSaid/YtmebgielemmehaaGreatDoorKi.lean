import Derived.Test.YtmebgielemmehaaGreatDoorKh
set_option linter.unusedVariables false
set_option linter.unusedSimpArgs false
set_option linter.constructorNameAsVariable false
set_option linter.defProp false
namespace Go.PI
open Go.AI
def Rz(H H':St):Prop:= ∀a cs m,H.get a=some (.cells cs m)->∃cx b,H'.get a=some (.cells cx {m with tip:=b})
def aV0:Ga:=λ_=>none
section
variable{P:Program}{J J':Nu}{I I1 I':Ga}{H H':St}{S:PS}{A:Slots}{base:Nat}
def Qt.put{id:Nat}{o:AObj}(hf:H.get id=none):Qt H (H.put id o):=
 ⟨rfl,λa ob h=> .inl (by rw[cA,bH (λe=>by rw[e,hf]at h;cases h)];exact h)⟩
def Qt.row(q:Qt H H'){id:Nat}{cs:List Value}{m:mX}(h:H.row id=some (cs,m)): ∃b,H'.row id=some (cs,{m with tip:=b}):=by
 obtain⟨h1,h2⟩:=eI h;rcases q.get id _ h1 with e|⟨cx,m',b,e1,_,e2⟩
 .exact⟨m.tip,row_of_get e (by rw[mF q.vers];exact h2)⟩
 .simp only[AObj.cells.injEq]at e1;obtain⟨rfl,rfl⟩:=e1;exact⟨b,row_of_get e2 (by rw[mF q.vers];exact h2)⟩
def Td{t:TypeId}{w u:Value}(bi: ∀id cs m,H.row id=some (cs,m)->∃m',H'.row id=some (cs,m'))(h:hY P H t w=some u):hY P H' t w=some u:=by
 unfold hY at h⊢;split at h
 .split at h
  .rename_i cs m hr;obtain⟨m',ca⟩:=bi _ _ _ hr;simp only[ca];exact h
  .cases h
 .cases h
def MF{t:TypeId}{w u:Value}{lo hi mx:Option Value}(bi: ∀id cs m,H.row id=some (cs,m)->∃cx m',H'.row id=some (cx,m')/\m'.z=m.z)
    (hex: ∀id off n c,w= .slice (some ⟨id,off,none⟩) n c->∃cs m,H.row id=some (cs,m)) (h:oN P H t w lo hi mx=some u):oN P H' t w lo hi mx=some u:=by
 unfold oN at h⊢;split at h
 .exact h
 .rename_i e he;split at h
  .rename_i a len c;split at h
   .rename_i z l hh m e1 e2 e3 e4;cases hc:decide (0<=l.getD 0)&&decide (l.getD 0<=hh.getD (len:Int))&&decide (hh.getD (len:Int)<=(len:Int))with
    |false=>simp only[hc,aJ]at h;cases h
    |true=>
     simp only[hc,aI]at h⊢;split at h
     .exact h
     .rename_i id off;obtain⟨cs,mm,hr⟩:=hex id off len c rfl;obtain⟨cx,m',ca,ln⟩:=bi _ _ _ hr;have:oG H' id z=oG H id z:=by simp only[oG,hr,ca,ln]
      rw[this];exact h
     .exact h
   .cases h
  .cases h
 .split at h
  .rename_i id off _ _;cases hz:oG H id 0 with
   |false=>rw[hz]at h;cases h
   |true=>
    have:oG H' id 0=true:=by
     unfold oG at hz⊢;split at hz
     .rename_i cs m hr;obtain⟨cx,m',ca,ln⟩:=bi _ _ _ hr;simp only[ca,ln];exact hz
     .cases hz
    rw[hz]at h;rw[this];exact h
  .cases h
 .cases h
def XO(q:Qt H H'){Z:Operand->Value}{o:Oper}{t:TypeId}{a:Operand}(ho:o.op= .load t a){v:Value}(h:iV P H Z o=some v):iV P H' Z o=some v:=by
 simp only[iV,ho]at h⊢;refine Td (λid cs m hr=>?_) h
 obtain⟨b,hb⟩:=q.row hr;exact⟨_,hb⟩
def B5(q:Qt H H'){r:iB}(hl:r.ob=none->∃t a,r.o.op= .load t a)(hb: ∀ob,r.ob=some ob->(∀a,H.get a=some ob->H'.get a=some ob))(h:check P base H r=true):check P base H' r=true:=by
 unfold check at h⊢;split at h
 .rename_i e;split at h
  .rename_i v hv;obtain⟨t,a,ho⟩:=hl e;simp only[XO q ho hv];exact h
  .cases h
 .rename_i ob e;split at h
  .rename_i ob' hg;have:=AY h;subst this;simp only[hb ob' e _ hg];exact h
  .cases h
def Stab(P:Program)(base:Nat)(J:Nu)(H:St)(r:iB):Prop:= ∀J' H',Keep J aV0 H H'->Mon H J J'->Rz H H'->check P base H' r=true
def Stab.adv{p p':PSt}{r:iB}(h:Stab P base J H r)(a:Adv J I p H J' I' p' H'):Stab P base J' H' r:=by
 intro J'' H'' k m z;refine h J'' H'' (Keep.trans (I:=aV0) (I':=aV0) (a.keep.weak λ_ h=>by cases h) a.mon k (.refl H _)) (a.mon.trans m a.keep.dom) λx cs mm hx=>?_
 obtain⟨cx,b,h1⟩:=a.rz x cs mm hx;obtain⟨ti,b',h2⟩:=z x cx _ h1;exact⟨ti,b',h2⟩
def Rf(base:Nat)(r:iB)(a:Nat):Prop:=(r.ob=none/\∃t x off,r.o.op= .load t x/\ev r.S x= .pointer (some ⟨a,off,none⟩))∨(r.ob≠none/\base+r.i=a)
def Mz{r:iB}{a:Nat}(hl:Rf base r a)(hg:H'.get a=H.get a)(hv:H'.vers=H.vers)(h:check P base H r=true):check P base H' r=true:=by
 unfold check at h⊢;rcases hl with⟨h1,t,x,off,h2,h3⟩|⟨h1,h2⟩
 .rw[h1]at h⊢;have bi:H'.row a=H.row a:=by
   simp only[St.row,hg];cases H.get a with
   |none=>rfl
   |some o=>cases o with
    |cells cs m=>simp only[mF hv]
    |map es=>rfl
  simp only[iV,h2,hY,h3,bi]at h⊢;exact h
 .cases fa:r.ob with
  |none=>exact absurd fa h1
  |some ob=>rw[fa]at h;simp only[h2,hg]at h⊢;exact h
structure Trk(P:Program)(base:Nat)(J:Nu)(p:PSt)(H:St)(q:jE)(r:iB):Prop where
 cl: ∀id,aA1 q.o q.a q.v=some id->id∉p.wr->∃a,J id=some (some a)/\Rf base r a/\check P base H r=true
 i:q.i=r.i
 ok:q.stale=false->check P base H r=true
 box:kF q.o=false->∀ob,r.ob=some ob->∃cs,ob= .cells cs boxMeta
 rd:r.ob=none->∃t a,r.o.op= .load t a
 ld: ∀t a,q.o.op= .load t a->r.ob=none/\r.o=q.o/\R J H q.a (ev r.S a)/\R J H q.v r.v
def Inv(P:Program)(base:Nat)(J:Nu)(p:PSt)(H:St)(Pl:List jE)(Rl:List iB):Prop:= ∀r∈Rl,Stab P base J H r∨∃q∈Pl,Trk P base J p H q r
def Trk.adv_cl{p p':PSt}{q:jE}{r:iB}(T:Trk P base J p H q r)(a:Adv J I p H J' I' p' H'): ∀id,aA1 q.o q.a q.v=some id->id∉p'.wr->∃a,J' id=some (some a)/\Rf base r a/\check P base H' r=true:=by
 intro id hid hd;obtain⟨b,h1,h2,h3⟩:=T.cl id hid λhh=>hd (a.dp.wr id hh)
 obtain⟨e1,e2⟩:=a.bx id b h1 hd;exact⟨b,e2,h2,Mz h2 e1 a.keep.vers h3⟩
mutual
def HC: ∀{x y:PV},yV x y=true->x=y
 | .v a,.v b,h=>by rw[oW a b h]
 | .str a,.str b,h=>by simp only[yV,beq_iff_eq]at h;rw[h]
 | .agg xs,.agg ys,h=>by rw[DA h]
 | .v _,.str _,h| .v _,.agg _,h| .v _,.tup _,h| .v _,.nil,h| .v _,.emp,h| .v _,.sl _ _,h| .v _,.pin _ _ _,h| .v _,.ptr _ _,h| .v _,.rs _ _ _,h| .v _,.mp _,h| .v _,.fn _ _ _,h| .v _,.und,h=>by simp[yV]at h
 | .str _,.v _,h| .str _,.agg _,h| .str _,.tup _,h| .str _,.nil,h| .str _,.emp,h| .str _,.sl _ _,h| .str _,.pin _ _ _,h| .str _,.ptr _ _,h| .str _,.rs _ _ _,h| .str _,.mp _,h| .str _,.fn _ _ _,h| .str _,.und,h=>by simp[yV]at h
 | .agg _,.v _,h| .agg _,.str _,h| .agg _,.tup _,h| .agg _,.nil,h| .agg _,.emp,h| .agg _,.sl _ _,h| .agg _,.pin _ _ _,h| .agg _,.ptr _ _,h| .agg _,.rs _ _ _,h| .agg _,.mp _,h| .agg _,.fn _ _ _,h| .agg _,.und,h=>by simp[yV]at h
 | .tup _,_,h| .nil,_,h| .emp,_,h| .sl _ _,_,h| .pin _ _ _,_,h| .ptr _ _,_,h| .rs _ _ _,_,h| .mp _,_,h| .fn _ _ _,_,h| .und,_,h=>by simp[yV]at h
def DA: ∀{xs ys:List PV},AX xs ys=true->xs=ys
 |[],[],_=>rfl
 |x::xs,y::ys,h=>by
  simp only[AX,aC]at h;rw[HC h.1,DA h.2]
 |[],_::_,h|_::_,[],h=>by simp[AX]at h
end
def Inv.check{p:PSt}{Pl:List jE}{Rl:List iB}(γ:Inv P base J p H Pl Rl)(M:Mem J I p H)(h:Pl.all (oJ P p)=true):Rl.all (AI.check P base H)=true:=by
 rw[bJ]at h⊢;intro r hr;rcases γ r hr with hs|⟨q,hq,T⟩
 .exact hs J H (.refl J aV0 H) (.refl H J) λa cs m h=>⟨cs,m.tip,h⟩
 .have hc:=h q hq;unfold oJ at hc;cases ci:q.stale with
  |false=>exact T.ok ci
  |true=>
   rw[ci]at hc;simp only[bD,Bool.false_or,Bool.or_eq_true]at hc;rcases hc with hc|hc
   .cases tg:aA1 q.o q.a q.v with
    |none=>rw[tg]at hc;cases hc
    |some id=>
     rw[tg]at hc;simp only[QA,Bool.not_eq_true',List.contains_eq_mem,bC]at hc;obtain⟨_,_,_,h3⟩:=T.cl id tg hc;exact h3
   split at hc
   .rename_i t a ho;simp only[aC]at hc;obtain⟨h1,h2,h3,h4⟩:=T.ld t a ho;cases hv:Uf q.v with
    |none=>rw[hv]at hc;simp at hc
    |some w=>
     split at hc
     .rename_i v' hl;have:=HC hc.2;subst this;obtain⟨u,hu,ca⟩:=Ba M h3 hl;obtain⟨rfl,_⟩:=EI hv ca;obtain⟨e,_⟩:=EI hv h4;unfold AI.check;rw[h1];simp only[iV,h2,ho,hu];rw[e];exact lA _
     .simp at hc
   .cases hc
def MN{id:Nat}{c:Call}{s x u:Value}(hf:H.get id=none)(h1:fS P H id c s x=some (u,H')):Qt H H':=by
 unfold fS at h1;split at h1
 .split at h1
  .rename_i e d _ _;cases hc:BJ d x with
   |false=>rw[hc,aJ]at h1;cases h1
   |true=>
    rw[hc,aI]at h1;split at h1
    .rename_i info _;split at h1
     .rename_i n xs z _ _;cases hc2:xs.all one&&Nat.ble 1 info.size&&Nat.ble 1 info.bytes&&Nat.beq z.cells.size info.size&&eT s with
      |false=>rw[hc2,aJ]at h1;cases h1
      |true=>
       rw[hc2,aI]at h1;cases hc3:Nat.beq n 0 with
       |true=>rw[hc3,aI]at h1;simp only[aA,aB]at h1;obtain⟨_,rfl⟩:=h1;exact .refl H
       |false=>
        rw[hc3,aJ]at h1;unfold gX at h1;split at h1
        .cases hc4:Nat.ble (n*info.bytes) 1073741824 with
         |false=>rw[hc4,aJ]at h1;cases h1
         |true=>rw[hc4,aI]at h1;simp only[aA,aB]at h1;obtain⟨_,rfl⟩:=h1;exact .put hf
        .rename_i id0 off len k;cases hc4:Nat.ble ((len+n)*info.bytes) 1073741824 with
         |false=>rw[hc4,aJ]at h1;cases h1
         |true=>
          rw[hc4,aI]at h1;split at h1
          .rename_i cs m bi;split at h1
           .rename_i old _;cases hc5:Nat.beq k len with
            |true=>rw[hc5,aI]at h1;simp only[aA,aB]at h1;obtain⟨_,rfl⟩:=h1;exact .put hf
            |false=>
             rw[hc5,aJ]at h1;cases hc6:m.tip&&m.wr&&Nat.beq m.z info.size&&Nat.beq (off+len*info.size) cs.length&&m.grp.isSome with
             |false=>rw[hc6,aJ]at h1;cases h1
             |true=>
              rw[hc6,aI]at h1;simp only[aA,aB]at h1;obtain⟨_,rfl⟩:=h1;simp only[aC]at hc6;refine⟨rfl,λa ob hg=>?_⟩
              rw[cA,bH (λe=>by rw[e,hf]at hg;cases hg),cA]
              by_cases e2:a=id0
              .subst e2;rw[(eI bi).1]at hg;simp only[aA]at hg;subst hg;rw[bI rfl];exact .inr ⟨cs,m,false,rfl,hc6.1.1.1.1,rfl⟩
              .rw[bH e2];exact .inl hg
           .cases h1
          .cases h1
        .rename_i b0 o0 s0 l0 k0;cases hc4:Nat.beq s0 1&&Nat.ble (n*info.bytes) 1073741824 with
         |false=>rw[hc4,aJ]at h1;cases h1
         |true=>rw[hc4,aI]at h1;simp only[aA,aB]at h1;obtain⟨_,rfl⟩:=h1;exact .put hf
        .cases h1
     .cases h1
    .cases h1
  .cases h1
 .cases h1
def Inv.qt{p p':PSt}{Pl:List jE}{Rl:List iB}(γ:Inv P base J p H Pl Rl)(a:Adv J I p H J' I' p' H')(q:Qt H H')(hx: ∀q∈Pl,kF q.o=true->q.stale=false->∀a ob,H.get a=some ob->H'.get a=some ob):Inv P base J' p' H' Pl Rl:=by
 intro r hr;rcases γ r hr with hs|⟨k,hk,T⟩
 .exact .inl (hs.adv a)
 .refine .inr ⟨k,hk,T.adv_cl a,T.i,λci=>B5 q T.rd (λob fa b hb=>?_) (T.ok ci),T.box,T.rd,λt x ho=>?_⟩
  .cases hm:kF k.o with
   |true=>exact hx k hk hm ci b ob hb
   |false=>
    obtain⟨cs,rfl⟩:=T.box hm ob fa;rcases q.get b _ hb with e|⟨cx,m',b',e1,e2,_⟩
    .exact e
    .simp only[AObj.cells.injEq]at e1;obtain⟨rfl,rfl⟩:=e1;cases e2
  .obtain⟨h1,h2,h3,h4⟩:=T.ld t x ho;exact⟨h1,h2,h3.keep a.keep a.mon,h4.keep a.keep a.mon⟩
def Inv.filter{p:PSt}{Pl:List jE}{Rl:List iB}(γ:Inv P base J p H Pl Rl)(f:Nat->Bool):Inv P base J p H (Pl.filter λq=>f q.i) (Rl.filter λr=>f r.i):=by
 intro r hr;rw[List.mem_filter]at hr;rcases γ r hr.1 with hs|⟨k,hk,T⟩
 .exact .inl hs
 .exact .inr ⟨k,List.mem_filter.2 ⟨hk,by rw[T.i];exact hr.2⟩,T⟩
def Inv.stale{p p':PSt}{Pl:List jE}{Rl:List iB}(γ:Inv P base J p H Pl Rl)(a:Adv J I p H J' I' p' H'):Inv P base J' p' H' (Pl.map λq=>{q with stale:=true}) Rl:=by
 intro r hr;rcases γ r hr with hs|⟨k,hk,T⟩
 .exact .inl (hs.adv a)
 .refine .inr ⟨_,List.mem_map.2 ⟨k,hk,rfl⟩,T.adv_cl a,T.i,λh=>(by cases h),T.box,T.rd,λt x ho=>?_⟩
  obtain⟨h1,h2,h3,h4⟩:=T.ld t x ho;exact⟨h1,h2,h3.keep a.keep a.mon,h4.keep a.keep a.mon⟩
def Inv.some{p p':PSt}{Pl:List jE}{Rl:List iB}(γ:Inv P base J p H Pl Rl)(a:Adv J I p H J' I' p' H')(q:Qt H H'):Inv P base J' p' H' (Pl.map λq=>bif !kF q.o then q else{q with stale:=true}) Rl:=by
 intro r hr;rcases γ r hr with hs|⟨k,hk,T⟩
 .exact .inl (hs.adv a)
 .cases hm:kF k.o with
  |true=>
   refine .inr ⟨{k with stale:=true},List.mem_map.2 ⟨k,hk,by simp[hm]⟩,T.adv_cl a,T.i,λh=>(by cases h),T.box,T.rd,λt x ho=>?_⟩
   obtain⟨h1,h2,h3,h4⟩:=T.ld t x ho;exact⟨h1,h2,h3.keep a.keep a.mon,h4.keep a.keep a.mon⟩
  |false=>
   refine .inr ⟨k,List.mem_map.2 ⟨k,hk,by simp[hm]⟩,T.adv_cl a,T.i,λci=>B5 q T.rd (λob fa b hb=>?_) (T.ok ci),T.box,T.rd,λt x ho=>?_⟩
   .obtain⟨cs,rfl⟩:=T.box hm ob fa;rcases q.get b _ hb with e|⟨cx,m',b',e1,e2,_⟩
    .exact e
    .simp only[AObj.cells.injEq]at e1;obtain⟨rfl,rfl⟩:=e1;cases e2
   .obtain⟨h1,h2,h3,h4⟩:=T.ld t x ho;exact⟨h1,h2,h3.keep a.keep a.mon,h4.keep a.keep a.mon⟩
def R.vid{p:PSt}(M:Mem J I p H){v:PV}{u:Value}{id:Nat}(r:R J H v u)(hv:PI.vid v=Option.some id)(hg: ∃o,p.get id=Option.some o/\o≠ .gone):
    ∃a,J id=Option.some (Option.some a)/\((∃off,u= .pointer (Option.some ⟨a,off,none⟩))∨∃off n c,u= .slice (Option.some ⟨a,off,none⟩) n c):=by
 obtain⟨o,ho,bn⟩:=hg;have hν: ∃a,J id=Option.some (Option.some a):=by
  have:=M.get id o ho;cases o with
  |box cs=>obtain⟨a,us,h1,_⟩:=this;exact⟨a,h1⟩
  |row z ag cs=>obtain⟨a,us,h1,_⟩:=this;exact⟨a,h1⟩
  |map es=>exact this.elim
  |gone=>exact absurd rfl bn
 obtain⟨a,ha⟩:=hν;refine⟨a,ha,?_⟩;cases v<;>simp only[PI.vid,aA]at hv<;>try cases hv
 .cases r with
  |ptr _ fh a' h=>rw[ha]at h;simp only[aA]at h;subst h;exact .inl ⟨_,rfl⟩
  |ptr0 _ off a' h=>rw[ha]at h;cases h
 .cases r with
  |rs _ fh qw c a' h=>rw[ha]at h;simp only[aA]at h;subst h;exact .inr ⟨_,_,_,rfl⟩
  |rs0 _ off len c a' h=>rw[ha]at h;cases h
def kL{N:Type}{c:Bool}{A:Option N}{x:N}(h:(bif c then A else none)=Option.some x):A=Option.some x:=by cases c with
 |false=>cases h
 |true=>exact h
def XC{N:Type}{c:Bool}{A B x:N}(h:(bif c then A else B)=x):A=x∨B=x:=by cases c with
 |false=>exact .inr h
 |true=>exact .inl h
def Gf{Z:Operand->Value}{o:Oper}{id a:Nat}{u:Value}{ob:AObj}(h:eZ P Z o id=Option.some (u,ob))(hu:(∃off,u= .pointer (Option.some ⟨a,off,none⟩))∨∃off n c,u= .slice (Option.some ⟨a,off,none⟩) n c):id=a:=by
 have iG: ∀{off n k:Nat},u= .pointer (Option.some ⟨id,off,none⟩)∨u= .slice (Option.some ⟨id,off,none⟩) n k∨u= .map (Option.some id)->id=a:=by
  rintro off n k (rfl|rfl|rfl)<;>rcases hu with⟨o2,e⟩|⟨o2,n2,c2,e⟩<;>first|(cases e;rfl)|cases e
 obtain⟨dst,op,ty,pos,af,g⟩:=o;cases op<;>simp only[eZ]at h<;>try cases h
 .split at h<;>try cases h
  have h:=kL h;simp only[aA,aB]at h;exact iG (n:=0) (k:=0) (.inl h.1.symm)
 .have h:=kL h;simp only[aA,aB]at h;exact iG (n:=0) (k:=0) (.inl h.1.symm)
 .split at h<;>try cases h
  split at h<;>try cases h
  split at h<;>try cases h
  have h:=kL h;simp only[aF,aB]at h;obtain⟨cs,_,h2,_⟩:=h;exact iG (.inr (.inl h2.symm))
 .have h:=kL h;simp only[aA,aB]at h;exact iG (off:=0) (n:=0) (k:=0) (.inr (.inr h.1.symm))
 .split at h<;>try cases h
  split at h<;>try cases h
  split at h<;>try cases h
  have h:=kL h;rcases XC h with h|h
  .simp only[aA,aB]at h;exact iG (.inr (.inl h.1.symm))
  .simp only[aA,aB]at h;exact iG (.inr (.inl h.1.symm))
def Inv.cons{p:PSt}{Pl:List jE}{Rl:List iB}(γ:Inv P base J p H Pl Rl){r:iB}(h:Stab P base J H r):Inv P base J p H Pl (r::Rl):=by
 intro x hx;rcases List.mem_cons.1 hx with rfl|hx
 .exact .inl h
 .exact γ x hx
def Inv.cons2{p:PSt}{Pl:List jE}{Rl:List iB}(γ:Inv P base J p H Pl Rl){r:iB}{q:jE}(h:Trk P base J p H q r):Inv P base J p H (q::Pl) (r::Rl):=by
 intro x hx;rcases List.mem_cons.1 hx with rfl|hx
 .exact .inr ⟨q,aH ..,h⟩
 .rcases γ x hx with h|⟨k,hk,T⟩
  .exact .inl h
  .exact .inr ⟨k,aG _ hk,T⟩
end
end Go.PI
namespace Go.PI
open Go.AI
section
variable{P:Program}{J J':Nu}{I I1 I':Ga}{H H':St}{S:PS}{A:Slots}{base:Nat}
def IY{o:Oper}(h:cL o= .pure)(S:PS):jO o S=false:=by
 obtain⟨dst,op,ty,pos,af,g⟩:=o;cases op<;>first|rfl|(simp[cL]at h)
def Sc{p p1:PSt}{o:Oper}{take own:Bool}{v:PV}{u:Value}{i:Nat}(M:Mem J I p H)(F:FR J I H S A)(ho:o.op.operands.all (cI P)=true)(hp:lJ P p S o take=some (v,own,p1))(hn:jO o S=false)
    (hu:iV P H (ev A) o=some u):Stab P base J H ⟨i,o,A,u,none⟩:=by
 intro J' H' k m z;have cb:iV P H' (ev A) o=some u->check P base H' ⟨i,o,A,u,none⟩=true:=by
  intro h;simp only[check,h];exact lA u
 apply cb
 replace ho:=rU ho
 obtain⟨dst,op,ty,pos,af,g⟩:=o;cases op with
 |load t a=>
  simp only[Op.operands,aP,List.all_nil,bE]at ho;have ra:=cU F ho;simp only[iV]at hu⊢;simp only[lJ]at hp;split at hp
  .rename_i v' hl;simp only[jO]at hn;cases ru:cP S a<;>rw[ru]at hl hn ra<;>simp only[jF]at hl<;>(try cases hl)<;>(try cases hn)
   generalize ev A a=w at ra hu⊢;cases ra with
   |pin zz _ _ _ id b rcs mm hs hr hb hh=>
    obtain⟨bb,hf⟩:=hr.keep k m;simp only[hY,hr.1]at hu;simp only[hY,hf.1];exact hu
  .cases hp
 |slice t x lo hi mx=>
  simp only[iV]at hu⊢;simp only[Op.operands,Array.toList_append,List.all_append,aC]at ho;have rx:=cU F (P:=P) (x:=x) (by simpa using ho.1.1.1)
  simp only[lJ,aF,aB]at hp;obtain⟨⟨w,ff⟩,hw,_⟩:=hp;refine MF (λid cs mm hr=>?_) (λid off n c hxx=>?_) hu
  .obtain⟨h1,h2⟩:=eI hr;obtain⟨cx,b,h3⟩:=z id cs mm h1;exact⟨cx,_,row_of_get h3 (by rw[mF k.vers];exact h2),rfl⟩
  .rw[hxx]at rx;generalize cP S x=xv at rx hw;cases rx with
   |emp1 _ _ _ rcs m hr=>exact⟨_,_,hr.1⟩
   |sl _ _ _ _ _ rcs m hz hs hr hm hb hh=>exact⟨_,_,hr.1⟩
   |rs id' _ _ _ a hν=>
    obtain⟨o',jd⟩:=M.live _ _ hν;have:=M.get _ _ jd;cases o' with
    |box cs=>obtain⟨a',us,h1,h2,_⟩:=this;rw[hν]at h1;simp only[aA]at h1;subst h1;exact⟨_,_,row_of_get h2 rfl⟩
    |row z ag cs=>obtain⟨a',us,h1,h2,_⟩:=this;rw[hν]at h1;simp only[aA]at h1;subst h1;exact⟨_,_,row_of_get h2 rfl⟩
    |map es=>exact this.elim
    |gone=>rw[show J id'=some none from this]at hν;cases hν
   |v _ hp=>simp[bR]at hp
   |und _=>
    unfold kE at hw;split at hw
    .simp at hw
    .split at hw<;>simp at hw
    .cases hw
   |rs0 id' _ _ _ a hν=>
    unfold kE at hw;split at hw
    .simp at hw
    .split at hw
     .split at hw
      .split at hw
       .rename_i hg;obtain⟨a',us,h1,_⟩:=M.get _ _ hg
        simp_all
       .cases hw
      all_goals simp_all
     .cases hw
    .cases hw
 |_=>simp only[lJ]at hp;cases hp
def Ul{v:PV}{id off n c:Nat}(r:R J H v (.slice (some ⟨id,off,none⟩) n c))(hv:v= .emp∨∃z es,v= .sl z es): ∀k,J k≠some (some id):=by
 rcases hv with rfl|⟨z,es,rfl⟩
 .cases r with|emp1 _ _ _ rcs m hr=>exact hr.2
 .cases r with|sl _ _ _ _ _ rcs m hz hs hr hm hb hh=>exact hr.2
def aCv(z:Nat)(es:List PV):dD z es= .emp∨∃z' es',dD z es= .sl z' es':=by
 cases es with
 |nil=>exact .inl rfl
 |cons e es=>exact .inr ⟨z,_,rfl⟩
def Ur{pc:fI}{ac:FuncId->Array Value->St->Option (Value×St)}(bm:jD pc ac){ops:Array Oper}{ms:List Nat}(dq: ∀o∈ops.toList,o.op.operands.all (cI P)=true):
    ∀(sc:List wJ) (Pl:List jE) (Rl:List iB) (J:Nu) (I:Ga) (S:PS) (p:PSt) (A:Slots) (H:St) (S':PS) (p':PSt),(fT sc).Nodup->(∀j∈fT sc,j<ops.size/\H.get (base+j)=none)->base+ops.size<=H.next->
      Inv P base J p H Pl Rl->Mem J I p H->FR J I H S A->jV P pc ops ms sc Pl S p=some (S',p')->
      ∃A' H' J' I',fD P ac ops ms base (fT sc) Rl A H=some (A',H')/\Mem J' I' p' H'/\FR J' I' H' S' A'/\Adv J I p H J' I' p' H'/\(∀j,j<base->H.get j=none->H'.get j=none):=by
 intro sc;induction sc with
 |nil=>
  intro Pl Rl J I S p A H S' p' _ _ hb γ M F h;simp only[jV]at h;cases hc:Pl.all (oJ P p)with
  |false=>rw[hc,aJ]at h;cases h
  |true=>
   rw[hc,aI]at h;simp only[aA,aB]at h;obtain⟨rfl,rfl⟩:=h;refine⟨A,H,J,I,?_,M,F,.refl J I p H,λj _ hj=>hj⟩
   simp only[fT,fD,γ.check M hc,aI]
 |cons s sc ih=>
  intro Pl Rl J I S p A H S' p' ge cj hb γ M F h;cases s with
  |freeze t=>
   simp only[jV]at h;split at h
   .rename_i S1 p1 h1;obtain⟨J1,M1,F1,A1⟩:=uH M F h1;obtain⟨A',H',J',I',k1,k2,k3,k4,k5⟩:=ih Pl Rl J1 I S1 p1 A H S' p' ge cj hb (γ.qt A1 (.refl H) λ_ _ _ _ _ _ h=>h) M1 F1 h
    exact⟨A',H',J',I',k1,k2,k3,A1.trans k4,k5⟩
   .cases h
  |app a i s=>
   simp only[fT]at ge cj⊢;obtain⟨ha,hfa⟩:=cj a (by simp)
   obtain⟨hi,sj⟩:=cj i (by simp)
   obtain⟨hs,hfs⟩:=cj s (by simp)
   simp only[List.nodup_cons,List.mem_cons,not_or]at ge;simp only[jV]at h;have hopA:ops[a]?=some ops[a]:=Array.getElem?_eq_getElem ha;have hopI:ops[i]?=some ops[i]:=Array.getElem?_eq_getElem hi;have hopS:ops[s]?=some ops[s]:=Array.getElem?_eq_getElem hs;rw[hopA,hopI,hopS]at h;simp only at h;split at h
   .rename_i S1 h1;cases hc0:Pl.all (oJ P p)&&(Pl.filter λr=> !kK (ms.getD a 0) r.i).all (λr=> !kF r.o)with
    |false=>rw[hc0,aJ]at h;cases h
    |true=>
     rw[hc0,aI]at h;simp only[aC]at hc0;obtain⟨hc,lg⟩:=hc0;rw[bJ]at lg;obtain⟨u1,u2,H1,H2,I2,q1,q2,q3,q4,q5,q6,q7,q8,q9,q10,q11,M2,F2,A2,qt1,qt2,q12,q13⟩:=IC (ac:=ac) (base:=base) (iA:=a) (iI:=i) (iS:=s) M F hfa (by omega) (dq _ (by simp)) (dq _ (by simp)) (dq _ (by simp)) h1
     have hw: ∀{o:Oper} {A0:Slots},o.guard=none->wanted ops A0 o=true:=λhg=>by simp only[wanted,hg]
     have kj: ∀j∈fT sc,j<ops.size/\H2.get (base+j)=none:=λj hj=>by
      obtain⟨h2,h3⟩:=cj j (by simp[hj])
      exact⟨h2,(q13 _ (λe=>ge.1.2.2 (by rw[show a=j by omega];exact hj)) h3).2⟩
     have If:=γ.filter λk=> !kK (ms.getD a 0) k
     have nd:(Rl.filter λr=> !kK (ms.getD a 0) r.i).all (check P base H1)=true:=by
      rw[bJ];intro r hr;have hr0:=List.mem_filter.1 hr;have dc:=γ.check M hc;rw[bJ]at dc;have hcr:=dc r hr0.1;rcases If r hr with ci|⟨q,hq,T⟩
      .have hk3:Keep J aV0 H H1:=by
        refine⟨qt1.vers,by rw[q12];exact aS _,λx hx=>?_,λx hn cs m hg=>?_⟩
        .cases hxx:H.get x with
         |none=>rfl
         |some ob=>
          rcases qt1.get x ob hxx with e|⟨_,_,_,_,_,e⟩<;>rw[hx]at e<;>cases e
        .rcases qt1.get x _ hg with e|⟨cx,m',b',e1,e2,e3⟩
         .exact⟨m.tip,e,λh=>h,λ_=>rfl⟩
         .simp only[AObj.cells.injEq]at e1;obtain⟨rfl,rfl⟩:=e1;exact⟨b',e3,λh=>(by rw[e2]at h;cases h),λh=>(by cases h)⟩
       exact ci J H1 hk3 (.refl H J) λx cs m hx=>by
        rcases qt1.get x _ hx with e|⟨cx,m',b',e1,e2,e3⟩
        .exact⟨cs,m.tip,e⟩
        .simp only[AObj.cells.injEq]at e1;obtain⟨rfl,rfl⟩:=e1;exact⟨_,b',e3⟩
      .refine B5 qt1 T.rd (λob fa b hb=>?_) hcr
       have hm:kF q.o=false:=by simpa using lg q hq
       obtain⟨cs,rfl⟩:=T.box hm ob fa;rcases qt1.get b _ hb with e|⟨cx,m',b',e1,e2,_⟩
       .exact e
       .simp only[AObj.cells.injEq]at e1;obtain⟨rfl,rfl⟩:=e1;cases e2
     have γ2:=(If.some A2 qt2).filter λk=> !kK (ms.getD s 0) k
     obtain⟨A',H',J',I',j1,j2,j3,j4,j5⟩:=ih _ _ J I2 _ p _ H2 S' p' ge.2.2.2 kj (Nat.le_trans hb A2.keep.next) γ2 M2 F2 h
     refine⟨A',H',J',I',?_,j2,j3,A2.trans j4,λj hj hn=>j5 j hj (q13 j (by omega) hn).2⟩
     simp only[fD,hopA,hopI,hopS,hw q7,hw q8,hw q9,aI,q4,q5,q6,γ.check M hc,q1,q2,nd,q3];rw[q10];exact j1
   .cases h
  |op i take=>
   simp only[fT]at ge cj⊢;rw[List.nodup_cons]at ge;obtain⟨hi,sj⟩:=cj i (aH ..);simp only[jV]at h;have lx:ops[i]?=some ops[i]:=Array.getElem?_eq_getElem hi;rw[lx]at h;simp only at h;simp only[fD,lx];have qi:=dq ops[i] (by simp)
   generalize ops[i]=o at*;split at h
   .rename_i hw;rw[pU F hw,aI];split at h
    .rename_i v own S1 p1 h1;obtain⟨u,H1,J1,I1,k1,k2,k3,k4,k5,k6⟩:=Pm bm M F sj (by omega) qi h1
     have kj: ∀j∈fT sc,j<ops.size/\H1.get (base+j)=none:=λj hj=>by
      obtain⟨h2,h3⟩:=cj j (aG _ hj);exact⟨h2,k6 _ (by omega) (λe=>ge.1 (by rw[show i=j by omega];exact hj)) h3⟩
     have bv:=Nat.le_trans hb k5.keep.next
     have iG: ∀{Pl' Rl'},Inv P base J1 p1 H1 Pl' Rl'->jV P pc ops ms sc Pl' (S1.put o.dst v own) p1=some (S',p')->
              ∃A' H' J' I',fD P ac ops ms base (fT sc) Rl' (A.store o.dst u) H1=some (A',H')/\Mem J' I' p' H'/\FR J' I' H' S' A'/\Adv J I p H J' I' p' H'/\(∀j,j<base->H.get j=none->H'.get j=none):=by
      intro Pl' Rl' γ' h';obtain⟨A',H',J',I',j1,j2,j3,j4,j5⟩:=ih Pl' Rl' J1 I1 _ p1 _ H1 S' p' ge.2 kj bv γ' k3 k4 h';exact⟨A',H',J',I',j1,j2,j3,k5.trans j4,λj hj hn=>j5 j hj (k6 j (by omega) (by omega) hn)⟩
     cases hk:cL o with
     |pure=>
      simp only[tY,hk,aF,aB]at k1;obtain⟨u',jx,rfl,rfl⟩:=k1;have hu:iW P (ev A) o=some u':=by
       simp only[DH,hk,aF,aB]at h1;obtain⟨⟨v',ff,S''⟩,hp,rfl,rfl,rfl,rfl⟩:=h1;unfold A8 at hp;split at hp
       .rename_i r hpp;obtain⟨r1,r2,r3⟩:=r;obtain⟨u2,_,h2,_⟩:=HW F qi hpp;unfold oO at jx;rw[h2]at jx⊢;exact jx
       .cases hp
      simp only[hu];rw[show jX o=false by simp[jX,hk]]at h
      simp only[aJ,IY hk S]at h;exact iG (γ.qt k5 (.refl H) λ_ _ _ _ _ _ h=>h) h
     |read=>
      simp only[tY,hk,aF,aB]at k1;obtain⟨u',hu,rfl,rfl⟩:=k1;simp only[hu];rw[show jX o=false by simp[jX,hk]]at h
      simp only[aJ]at h;have γ':=γ.qt k5 (.refl H) λ_ _ _ _ _ _ h=>h
      have hpr: ∃ff p'',lJ P p S o take=some (v,ff,p''):=by
       simp only[DH,hk,aF,aB]at h1;obtain⟨⟨v',ff,p''⟩,hp,rfl,rfl,rfl,rfl⟩:=h1;exact⟨_,_,hp⟩
      obtain⟨ff,p'',hpr⟩:=hpr;cases pn:jO o S with
      |false=>
       rw[pn,aJ]at h;exact iG (γ'.cons ((Sc M F qi hpr pn hu).adv k5)) h
      |true=>
       rw[pn,aI]at h;have nd:check P base H ⟨i,o,A,u',none⟩=true:=by simp only[check,hu];exact lA u'
       refine iG (γ'.cons2 ⟨λid hid hd=>?_,rfl,λ_=>nd,λ_ ob fa=>(by cases fa),λ_=>?_,λt a kr=>?_⟩) h
       .simp only[jO]at pn;split at pn
        .rename_i t a kr;simp only[aA1,mV,kr]at hid;have bw:cI P a=true:=by
          have:=rU qi;rw[kr]at this;simpa [Op.operands]using this
         have di: ∃v2,jF P p t (cP S a)=some v2:=by
          simp only[lJ,kr]at hpr;split at hpr
          .exact⟨_,by assumption⟩
          .cases hpr
         obtain⟨v2,di⟩:=di;have hvd:PI.vid (cP S a)=some id:=by
          cases hh:cP S a<;>rw[hh]at hid<;>simp only[aOJ]at hid<;>first|exact hid|cases hid
         obtain⟨b,hb1,hb2⟩:=R.vid M (cU F bw) hvd (by
          cases hh:cP S a<;>rw[hh]at hid di<;>simp only[aOJ]at hid<;>try cases hid
          simp only[jF]at di;split at di
          .exact⟨_,by assumption,by simp⟩
          .exact⟨_,by assumption,by simp⟩
          .cases di)
         have hb3:=(k5.bx id b hb1 hd).2;refine⟨b,hb3,.inl ⟨rfl,t,a,?_⟩,nd⟩;rcases hb2 with⟨off,e⟩|⟨off,n,c,e⟩
         .exact⟨off,kr,e⟩
         .exfalso;have hr:=cU F bw;rw[e]at hr;cases hh:cP S a<;>rw[hh]at hid hr<;>simp only[aOJ]at hid<;>try cases hid
          cases hr
        .rename_i e;simp[cL,e]at hk
        .rename_i e;simp[cL,e]at hk
        .rename_i e;simp[cL,e]at hk
        .cases pn
       .simp only[jO]at pn;split at pn
        .rename_i t a e;exact⟨t,a,e⟩
        .rename_i e;simp[cL,e]at hk
        .rename_i e;simp[cL,e]at hk
        .rename_i e;simp[cL,e]at hk
        .cases pn
       refine⟨rfl,rfl,?_,k2⟩;simp only at kr;simp only[mV,kr];have:cI P a=true:=by
        have:=rU qi;rw[kr]at this;simpa [Op.operands]using this
       exact(cU F this).keep k5.keep k5.mon
     |alloc=>
      simp only[tY,hk,aF,aB]at k1;obtain⟨⟨u',ob⟩,hu,rfl,rfl⟩:=k1;simp only[hu];rw[show jX o=false by simp[jX,hk]]at h
      simp only[aJ]at h;have γ':=γ.qt k5 (.put sj) λ_ _ _ _ a ob h=>by rw[cA,bH (λe=>by rw[e,sj]at h;cases h)];exact h
      have nd:check P base (H.put (base+i) ob) ⟨i,o,A,u',some ob⟩=true:=by
       simp only[check,cA,bO];exact vG ob
      simp only[DH,hk,aF,aB]at h1;obtain⟨⟨v',ff,p''⟩,hp,dy,rfl,rfl,rfl⟩:=h1;simp only at dy;subst dy;have dx:(∃o2,p''.get p.next=some o2/\o2≠ .gone)->∀id,PI.vid v'=some id->(PI.vid v'=some id->id=p.next)->∃a,J1 id=some (some a)/\Rf base ⟨i,o,A,u',some ob⟩ a/\check P base (H.put (base+i) ob) ⟨i,o,A,u',some ob⟩=true:=by
       intro hg id hid hid2;have:=hid2 hid;subst this;obtain⟨b,hb1,hb2⟩:=R.vid k3 k2 hid hg;exact⟨b,hb1,.inr ⟨by simp,Gf hu hb2⟩,nd⟩
      obtain⟨dst,op,ty,pos,af,g⟩:=o;cases op with
      |alloc t=>
       have tf: ∀id,PI.vid v'=some id->id∉p''.wr->_:=λid hid _=>dx (by
        simp only[eO]at hp;split at hp<;>try cases hp
        exact⟨_,by rw[kH,bI rfl],by simp⟩) id hid (λ_=>by
        simp only[eO]at hp;split at hp<;>try cases hp
        simp only[PI.vid,aA]at hid;exact hid.symm)
       refine iG (γ'.cons2 (q:=⟨i,⟨dst,.alloc t,ty,pos,af,g⟩,mV ⟨dst,.alloc t,ty,pos,af,g⟩ S,v',false⟩) ⟨tf,rfl,λ_=>nd,λ_ ob' fa=>?_,λh=>(by cases h),λt a kr=>by cases kr⟩) h
       simp only[aA]at fa;subst fa;simp only[eZ]at hu;split at hu
       .rename_i zz _;cases hc:zz.cells.toList.all bR with
        |false=>rw[hc,aJ]at hu;cases hu
        |true=>rw[hc,aI]at hu;simp only[aA,aB]at hu;exact⟨_,hu.2.symm⟩
       .cases hu
      |box t x=>
       have tf: ∀id,PI.vid v'=some id->id∉p''.wr->_:=λid hid _=>dx (by
        simp only[eO]at hp;have hp:=kL hp;simp only[aA,aB]at hp;obtain⟨_,_,rfl⟩:=hp;exact⟨_,by rw[kH,bI rfl],by simp⟩) id hid (λ_=>by
        simp only[eO]at hp;have hp:=kL hp;simp only[aA,aB]at hp;obtain⟨rfl,_,_⟩:=hp;simp only[PI.vid,aA]at hid;exact hid.symm)
       refine iG (γ'.cons2 (q:=⟨i,⟨dst,.box t x,ty,pos,af,g⟩,mV ⟨dst,.box t x,ty,pos,af,g⟩ S,v',false⟩) ⟨tf,rfl,λ_=>nd,λ_ ob' fa=>?_,λh=>(by cases h),λt a kr=>by cases kr⟩) h
       simp only[aA]at fa;subst fa;simp only[eZ]at hu;cases hc:(ev A x).cells.toList.all one with
       |false=>rw[hc,aJ]at hu;cases hu
       |true=>rw[hc,aI]at hu;simp only[aA,aB]at hu;exact⟨_,hu.2.symm⟩
      |makeSlice t l c=>
       have lg: ∀id,PI.vid v'=some id->id=p.next/\∃o2,p''.get p.next=some o2/\o2≠ .gone:=by
        intro id hid;simp only[eO]at hp;split at hp<;>try cases hp
        split at hp<;>try cases hp
        split at hp<;>try cases hp
        have hp:=kL hp;rcases XC hp with hp|hp
        .simp only[aA,aB]at hp;obtain⟨rfl,_,_⟩:=hp;simp only[PI.vid]at hid;cases hid
        .have hp:=kL hp;simp only[aA,aB]at hp;obtain⟨rfl,_,rfl⟩:=hp;simp only[PI.vid,aA]at hid;exact⟨hid.symm,_,by rw[kH,bI rfl],by simp⟩
       exact iG (γ'.cons2 (q:=⟨i,⟨dst,.makeSlice t l c,ty,pos,af,g⟩,mV ⟨dst,.makeSlice t l c,ty,pos,af,g⟩ S,v',false⟩) ⟨λid hid _=>dx (lg id hid).2 id hid (λ_=>(lg id hid).1),rfl,λ_=>nd,λhm=>(by cases hm),λh=>(by cases h),λt a kr=>by cases kr⟩) h
      |buildSlice t len parts=>
       refine iG (γ'.cons ?_) h;have fa: ∃cs s,ob= .cells cs (cS s)/\u'= .slice (some ⟨base+i,0,none⟩) len len:=by
        simp only[eZ]at hu;split at hu
        .split at hu
         .rename_i s _;split at hu
          .rename_i z _;cases hc:z.cells.toList.all bR&&Nat.ble (len*s) 1000000&&Nat.beq z.cells.size s&&Nat.ble 1 s with
           |false=>rw[hc,aJ]at hu;cases hu
           |true=>
            rw[hc,aI]at hu;simp only[aF,aB]at hu;obtain⟨cs,_,h2,h3⟩:=hu;exact⟨_,s,h3.symm,h2.symm⟩
          .cases hu
         .cases hu
        .cases hu
       obtain⟨cs,s,rfl,rfl⟩:=fa;have jv:v'= .emp∨∃z es,v'= .sl z es:=by
        simp only[eO]at hp;split at hp
        .split at hp
         .rename_i s a z _ _ _;cases hc:Nat.ble (len*s) 1000000&&Nat.beq z.length s&&Nat.ble 1 s&&(a||Nat.beq s 1)with
          |false=>rw[hc,aJ]at hp;cases hp
          |true=>
           rw[hc,aI]at hp;split at hp
           .simp only[aA,aB]at hp;rw[<-hp.1];exact aCv _ _
           .cases hp
         .cases hp
        .cases hp
       have dn:=Ul k2 jv;intro J'' H'' kk mm zz;obtain⟨b,hb1,hb2,_⟩:=kk.row (base+i) dn cs (cS s) (by rw[cA,bI rfl])
       have hbf:=hb2 rfl;subst hbf;simp only[check,hb1];exact vG _
      |_=>simp only[eO]at hp;cases hp
     |eff=>
      have k1':lY P ac H (ev A) o (base+i)=some (u,H1):=by simpa only[tY,hk]using k1
      rw[show jX o=true by simp[jX,hk]]at h
      simp only[aI]at h;cases hc:Pl.all (oJ P p)with
      |false=>rw[hc,aJ]at h;cases h
      |true=>
       rw[hc,aI]at h;simp only[γ.check M hc,aI,k1'];have If:=γ.filter λk=> !kK (ms.getD i 0) k
       cases ha:mM o with
       |false=>
        rw[ha]at h;simp only[Bool.false_and,aJ]at h;exact iG (If.stale k5) h
       |true=>
        rw[ha]at h;simp only[Bool.true_and]at h;have hqt:Qt H H1:=by
         obtain⟨dst,op,ty,pos,af,g⟩:=o;cases op<;>simp only[mM]at ha<;>(try cases ha)
         rename_i c;obtain⟨callee,cargs,ats⟩:=c;cases callee with
         |builtin b=>
          cases b<;>(try cases ha)
          simp only[lY]at k1';split at k1'
          .exact MN sj k1'
          .cases k1'
         |_=>cases ha
        exact iG (If.some k5 hqt) h
    .cases h
   .rename_i hw;rw[pU F hw,aJ];obtain⟨I1,M1,F1,A1⟩:=Pn M F o.dst;obtain⟨A',H',J',I',j1,j2,j3,j4,j5⟩:=ih Pl Rl J I1 _ p _ H S' p' ge.2 (λj hj=>cj j (aG _ hj)) hb γ M1 F1 h
    exact⟨A',H',J',I',j1,j2,j3,A1.trans j4,j5⟩
   .cases h
end
end Go.PI
namespace Go.PI
open Go.AI
def fE{n:Nat}{xs:List PV}:iU n xs=true↔∀x∈xs,below n x=true:=by
 induction xs with
 |nil=>simp[iU]
 |cons x xs ih=>simp[iU,ih]
def DG{n:Nat}{x:PV}(h:x.pur=true):below n x=true:=by cases x<;>first|rfl|simp[PV.pur]at h
def JP{es:List PV}(h: ∀e∈es,e.cells.all PV.pur=true){i:Nat}{x:PV}(hx:(eD es)[i]?=some x):x.pur=true:=by
 have:=hQ hx;simp only[eD,List.mem_flatMap]at this;obtain⟨e,he,hx⟩:=this;exact(bJ.1 (h e he)) x hx
section
variable{P:Program}{J J' J'':Nu}{I I1 I':Ga}{H H':St}{S:PS}{A:Slots}
def sD{N:Type}{us:List N}{xs:List PV}(hl:xs.length=us.length){x:PV}(hx:x∈xs): ∃(i:Nat) (u:N),xs[i]?=some x/\us[i]?=some u:=by
 obtain⟨i,hi,rfl⟩:=List.mem_iff_getElem.1 hx;exact⟨i,us[i],aV hi,aV (by omega)⟩
def R.restrict{n:Nat}(hν: ∀k,k<n->J'' k=J' k)(de: ∀k a,J'' k=some (some a)->J' k=some (some a)){x:PV}{u:Value}(r:R J' H x u):PI.below n x=true->R J'' H x u:=by
 have mb: ∀{id cs m},Fz J' H id cs m->Fz J'' H id cs m:=λh=>⟨h.1,λk hk=>h.2 k (de k _ hk)⟩
 induction r with
 |und u=>intro _;exact .und u
 |v x h=>intro _;exact .v x h
 |str s=>intro _;exact .str s
 |agg xs us hl _ ih=>
  intro hb;simp only[PI.below]at hb;rw[fE]at hb;exact .agg xs us hl λi x u hx hu=>ih i x u hx hu (hb x (hQ hx))
 |tup xs us hl _ ih=>
  intro hb;simp only[PI.below]at hb;rw[fE]at hb;exact .tup xs us hl λi x u hx hu=>ih i x u hx hu (hb x (hQ hx))
 |nil=>intro _;exact .nil
 |emp0=>intro _;exact .emp0
 |emp1 id off c rcs m hr=>intro _;exact .emp1 id off c rcs m (mb hr)
 |emp2 b o s c=>intro _;exact .emp2 b o s c
 |sl z es id off c rcs m hz hs hr ku hb _ ih=>
  intro _;exact .sl z es id off c rcs m hz hs (mb hr) ku hb λi x u hx hu=>ih i x u hx hu (DG (JP (λe he=>(hs e he).2) hx))
 |pin z es i off id base rcs m hs hr hb _ ih=>
  intro _;exact .pin z es i off id base rcs m hs (mb hr) hb λi x u hx hu=>ih i x u hx hu (DG (JP (λe he=>(hs e he).2) hx))
 |ptr id off a h=>
  intro hb;simp only[PI.below,gQ,aD]at hb;exact .ptr id off a (by rw[hν id hb];exact h)
 |ptr0 id off a h=>
  intro hb;simp only[PI.below,gQ,aD]at hb;exact .ptr0 id off a (by rw[hν id hb];exact h)
 |rs id off len c a h=>
  intro hb;simp only[PI.below,gQ,aD]at hb;exact .rs id off len c a (by rw[hν id hb];exact h)
 |rs0 id off len c a h=>
  intro hb;simp only[PI.below,gQ,aD]at hb;exact .rs0 id off len c a (by rw[hν id hb];exact h)
 |fn f xs ys us vs hl _ dw _ ih qx=>
  intro hb;simp only[PI.below,aC]at hb;rw[fE,fE]at hb;exact .fn f xs ys us vs hl (λi x u hx hu=>ih i x u hx hu (hb.1 x (hQ hx))) dw λi x u hx hu=>qx i x u hx hu (hb.2 x (hQ hx))
def R.low{n:Nat}(hν: ∀k y,J k=some y->k<n){x:PV}{u:Value}(r:R J H x u):PI.below n x=true:=by
 induction r with
 |agg xs us hl _ ih=>
  simp only[PI.below];rw[fE];intro x hx;obtain⟨i,u,h1,h2⟩:=sD hl hx;exact ih i x u h1 h2
 |tup xs us hl _ ih=>
  simp only[PI.below];rw[fE];intro x hx;obtain⟨i,u,h1,h2⟩:=sD hl hx;exact ih i x u h1 h2
 |ptr id off a h=>simp only[PI.below,gQ,aD];exact hν _ _ h
 |ptr0 id off a h=>simp only[PI.below,gQ,aD];exact hν _ _ h
 |rs id off len c a h=>simp only[PI.below,gQ,aD];exact hν _ _ h
 |rs0 id off len c a h=>simp only[PI.below,gQ,aD];exact hν _ _ h
 |fn f xs ys us vs hl _ dw _ ih qx=>
  simp only[PI.below,aC];rw[fE,fE];refine⟨λx hx=>?_,λx hx=>?_⟩
  .obtain⟨i,u,h1,h2⟩:=sD hl hx;exact ih i x u h1 h2
  .obtain⟨i,u,h1,h2⟩:=sD dw hx;exact qx i x u h1 h2
 |_=>rfl
def Ow.restrict{k:K}(de: ∀k a,J'' k=some (some a)->J' k=some (some a)){x:PV}{u:Value}(o:Ow J' I H k x u):Ow J'' I H k x u:=by
 have mb: ∀{id cs m},Fz J' H id cs m->Fz J'' H id cs m:=λh=>⟨h.1,λk hk=>h.2 k (de k _ hk)⟩
 induction o with
 |nil x=>exact .nil x
 |exact x id off len rcs m hr=>exact .exact x id off len rcs m (mb hr)
 |zer x b o=>exact .zer x b o
 |tup x xs u us hx _ ih=>exact .tup x xs u us hx ih
 |tip z es id off c rcs m hr ht hw hg hb hk=>exact .tip z es id off c rcs m (mb hr) ht hw hg hb hk
def ObjR.restrict{n id:Nat}(hν: ∀k,k<n->J'' k=J' k)(de: ∀k a,J'' k=some (some a)->J' k=some (some a))(hid:id<n){o:jU}(h:ObjR J' I H id o)(hb:qR n o=true):ObjR J'' I H id o:=by
 cases o with
 |box cs=>
  obtain⟨a,us,h1,h2,h3,h4⟩:=h;simp only[qR,bJ]at hb;refine⟨a,us,by rw[hν id hid];exact h1,h2,h3,λi x b u hx hu=>?_⟩
  obtain⟨h5,h6,h7⟩:=h4 i x b u hx hu;exact⟨h5.restrict hν de (hb _ (hQ hx)),h6,λbv=>(h7 bv).restrict de⟩
 |row z ag cs=>
  obtain⟨a,us,h1,h2,h3,h5,h4⟩:=h;simp only[qR]at hb;rw[fE]at hb;exact⟨a,us,by rw[hν id hid];exact h1,h2,h3,h5,λi x u hx hu=>(h4 i x u hx hu).restrict hν de (hb x (hQ hx))⟩
 |map es=>exact h
 |gone=>show J'' id=some none;rw[hν id hid];exact h
def ObjR.low{n id:Nat}(hν: ∀k y,J k=some y->k<n){o:jU}(h:ObjR J I H id o):qR n o=true:=by
 cases o with
 |box cs=>
  obtain⟨a,us,h1,h2,h3,h4⟩:=h;simp only[qR,bJ];intro c hc;obtain⟨i,hi,rfl⟩:=List.mem_iff_getElem.1 hc;have hx:cs[i]?=some (cs[i].1,cs[i].2):=aV hi;have hu:us[i]?=some (us[i]'(by omega)):=aV _
  exact(h4 i _ _ _ hx hu).1.low hν
 |row z ag cs=>
  obtain⟨a,us,h1,h2,h3,h5,h4⟩:=h;simp only[qR];rw[fE];intro x hx;obtain⟨i,u,e1,e2⟩:=sD h3.symm hx;exact(h4 i x u e1 e2).low hν
 |map es=>exact h.elim
 |gone=>rfl
def eP{old d:List Nat}{k:Nat}:k∈old.foldr CQ d↔k∈old∨k∈d:=by
 induction old with
 |nil=>simp
 |cons x old ih=>simp only[List.foldr_cons,lF,ih,List.mem_cons,or_assoc]
def xO{mem q:Tr jU}{old:List Nat}(hf: ∀id∈old,q.get id≠none)(k:Nat):(old.foldr (XG q) mem).get k=if k∈old then q.get k else mem.get k:=by
 induction old with
 |nil=>simp
 |cons x old ih=>
  simp only[List.foldr_cons];have ih:=ih λid hid=>hf id (aG _ hid)
  cases hx:q.get x with
  |none=>exact absurd hx (hf x (aH ..))
  |some o=>
   simp only[XG,hx,Tr.get_set];by_cases e:k=x
   .subst e;simp[hx]
   .rw[bH e,ih];by_cases e2:k∈old
    .rw[bI e2,bI (aG _ e2)]
    .rw[bH e2,bH (by simp[e,e2])]
def Sf{p p':PSt}(M:Mem J I p H)(M':Mem J' I' p' H')(adv:Adv J I (aOC p) H J' I' p' H'){v:PV}{u:Value}{own:Bool}(r:R J' H' v u)(ho:own=true->Ow J' I' H' .hand v u):
    ∃J'',R J'' H' v u/\(own=true->Ow J'' I' H' .hand v u)/\Mem J'' I' (settle p v p') H'/\Adv J I p H J'' I' (settle p v p') H':=by
 have hn:p.next<=p'.next:=adv.dp.next
 have nb: ∀k,k<p.next->k∉p'.dirty->p'.mem.get k=p.mem.get k:=adv.dp.mem
 unfold settle;cases hc:below p.next v&&(p'.dirty.filter λid=>Nat.blt id p.next).all (sL p.next p'.mem)with
 |false=>
  simp only[aJ];refine⟨J',r,ho,⟨M'.le,M'.lt,M'.inj,M'.live,M'.get,M'.free,M'.ver⟩,⟨adv.keep,adv.mon,adv.out,⟨hn,λid hid=>eP.2 (.inr hid),λid hid=>eP.2 (.inr hid),λk hk hd=>?_⟩,adv.rz,λid a hi hd=>adv.bx id a hi λhh=>hd (eP.2 (.inl (List.mem_filter.2 ⟨hh,by rw[gQ];simpa using M.le _ _ hi⟩)))⟩⟩
  refine nb k hk λhh=>hd (eP.2 (.inl ?_))
  rw[List.mem_filter];exact⟨hh,by rw[gQ];simpa using hk⟩
 |true=>
  simp only[aI];simp only[aC,bJ]at hc;obtain⟨hv,hold⟩:=hc;have hmo: ∀{k},k∈(p'.dirty.filter λid=>Nat.blt id p.next)↔k∈p'.dirty/\k<p.next:=by
   intro k;rw[List.mem_filter,gQ];simp
  generalize hO:(p'.dirty.filter λid=>Nat.blt id p.next)=old at*
  have hf: ∀id∈old,p'.mem.get id≠none:=λid hid h=>by
   have:=hold id hid;simp only[sL,h]at this;cases this
  have bc: ∀k,PSt.get ⟨old.foldr (XG p'.mem) p.mem,p.next,old.foldr CQ p.dirty,(p'.wr.filter λid=>Nat.blt id p.next).foldr CQ p.wr⟩ k=if k<p.next then p'.mem.get k else none:=by
   intro k;simp only[PSt.get,gQ,Bool.cond_decide];by_cases hk:k<p.next
   .simp only[hk,bO];rw[xO hf];by_cases e:k∈old
    .rw[bI e]
    .rw[bH e];exact(nb k hk λhh=>e (hmo.2 ⟨hh,hk⟩)).symm
   .simp[hk]
  have ph: ∀k,k<p.next->p'.get k=p'.mem.get k:=by
   intro k hk;simp only[PSt.get,gQ,Bool.cond_decide];rw[bI (by omega)]
  have hνn: ∀k,k<p.next->(λk=>if k<p.next then J' k else none) k=J' k:=λk hk=>by simp[hk]
  have de: ∀k a,(λk=>if k<p.next then J' k else none) k=some (some a)->J' k=some (some a):=λk a h=>by
   by_cases hk:k<p.next
   .simpa [hk]using h
   .simp[hk]at h
  refine⟨λk=>if k<p.next then J' k else none,r.restrict hνn de hv,λh=>(ho h).restrict de,⟨λk x hk=>?_,λk a hk=>M'.lt k a (de k a hk),λi j a hi hj=>M'.inj i j a (de i a hi) (de j a hj),λk a hk=>?_,λk o hk=>?_,M'.free,M'.ver⟩,
   ⟨adv.keep,⟨λid x hx=>?_,λid a ha=>adv.mon.2 id a (de id a ha)⟩,adv.out,⟨aS _,λid hid=>eP.2 (.inr hid),λid hid=>eP.2 (.inr hid),λk hk hd=>?_⟩,adv.rz,λid a hi hd=>by
    have bh:=M.le _ _ hi;obtain⟨e1,e2⟩:=adv.bx id a hi λhh=>hd (eP.2 (.inl (List.mem_filter.2 ⟨hh,by rw[gQ];simpa using bh⟩)))
    exact⟨e1,by show(if id<p.next then J' id else none)=_;rw[bI bh];exact e2⟩⟩⟩
  .by_cases h:k<p.next
   .exact h
   .simp[h]at hk
  .have h1:=de k a hk;have nt:k<p.next:=by
    by_cases h:k<p.next
    .exact h
    .simp[h]at hk
   obtain⟨o,jd⟩:=M'.live k a h1;rw[ph k nt]at jd;exact⟨o,by rw[bc,bI nt];exact jd⟩
  .rw[bc]at hk;by_cases nt:k<p.next
   .rw[bI nt]at hk;have hobj:=M'.get k o (by rw[ph k nt];exact hk)
    refine hobj.restrict hνn de nt ?_;by_cases e:k∈old
    .have:=hold k e;simp only[sL,hk]at this;exact this
    .have h0:p.mem.get k=some o:=by rw[<-nb k nt λhh=>e (hmo.2 ⟨hh,nt⟩)];exact hk
     have:p.get k=some o:=by
      simp only[PSt.get,gQ,Bool.cond_decide];rw[bI nt];exact h0
     exact(M.get k o this).low M.le
   .rw[bH nt]at hk;cases hk
  .have hid:=M.le id x hx;rcases adv.mon.1 id x hx with h1|h1
   .left;show(if id<p.next then J' id else none)=some x;rw[bI hid];exact h1
   .right;show(if id<p.next then J' id else none)=some none;rw[bI hid];exact h1
  .rw[xO hf];rw[bH λe=>hd (eP.2 (.inl e))]
end
end Go.PI
namespace Go.PI
open Go.AI
def nE:PC->Prop
 | .region _ ops draw ms sc=>if draw then ms=fL ops.toList []/\fT sc=canon ops ms else fT sc=List.range ops.size
 | .seq a b=>nE a/\nE b
 | .cond _ a b=>nE a/\nE b
 | .block _ c=>nE c
 | .loop c=>nE c
 | .scope c=>nE c
 | .drop _ c=>nE c
 | .ice _ c=>nE c
 |_=>True
def Lj{ops:Array Oper}{ms:List Nat}: ∀{l done:List Nat},GY ops ms l done=true->l.Nodup/\(∀i∈l,i<ops.size/\i∉done):=by
 intro l;induction l with
 |nil=>intro done _;exact⟨List.nodup_nil,λi hi=>by simp at hi⟩
 |cons i l ih=>
  intro done h;simp only[GY,aC]at h;obtain⟨⟨⟨⟨h1,h2⟩,h3⟩,h4⟩,h5⟩:=h;obtain⟨h6,h7⟩:=ih h5;have hi:i<ops.size:=by rw[gQ]at h1;simpa using h1
  have hd:i∉done:=by simpa using h2
  refine⟨List.nodup_cons.2 ⟨λhh=>(h7 i hh).2 (aH ..),h6⟩,λj hj=>?_⟩
  rcases List.mem_cons.1 hj with rfl|hj
  .exact⟨hi,hd⟩
  .exact⟨(h7 j hj).1,λhh=>(h7 j hj).2 (aG _ hh)⟩
section
variable{P:Program}{J J' J'':Nu}{I I1 I':Ga}{H H':St}{S:PS}{A:Slots}
def C2{ops:Array Oper}(h:Ao ops=true):(canon ops (fL ops.toList [])).Nodup/\∀i∈canon ops (fL ops.toList []),i<ops.size/\i∉([]:List Nat):=by
 unfold Ao at h;split at h
 .simp only[Bj,aC]at h;exact Lj h.1
 .cases h
def SM{ops:Array Oper}{o:Option (PS×PSt)}{r:PS×PSt}(h:WJ ops o=some r):o=some r/\Bh ops r.1 r.2=true:=by
 unfold WJ at h;split at h
 .rename_i r';cases hb:Bh ops r'.1 r'.2 with
  |true=>rw[hb,aI]at h;cases h;exact⟨rfl,hb⟩
  |false=>rw[hb]at h;cases h
 .cases h
def aCc{ops:Array Oper}{p:PSt}(M:Mem J I p H)(F:FR J I H S A)(h:Bh ops S p=true):aCd ops A H=true:=by
 unfold Bh at h;unfold aCd;split at h
 .rename_i e;rw[e]
 .rename_i s t e;rw[e];simp only;have r1:=(F s).1;have r2:=(F t).1;split at h
  .rename_i es i off id o2 e1 e2;rw[e1]at r1;rw[e2]at r2;split at h
   .rename_i cs hg;obtain⟨a,us,n1,n2,_⟩:=M.get _ _ hg;show(match A.at s,A.at t with
     | .pointer (some ⟨i,_,none⟩),.pointer (some ⟨j,_,none⟩)=> !Nat.beq i j&&(match H.get j with|some (.cells _ m)=>m.grp.isNone|_=>false)
     |_,_=>false)=true
    generalize A.at s=u1 at*;generalize A.at t=u2 at*;cases r1 with
    |pin z _ _ _ id' base rcs m hs hr hb h=>
     cases r2 with
     |ptr _ _ a' hν=>
      rw[hν]at n1;simp only[aA]at n1;subst n1;have:id'≠a':=λe=>hr.2 _ (e▸hν)
      simp only[cQ,bG this,n2,boxMeta,Option.isNone_none,Bool.not_false,Bool.and_self]
     |ptr0 _ _ a' hν=>rw[hν]at n1;cases n1
   .cases h
  .cases h
 .cases h
def wY(n:Nat):Keep J jS H {H with next:=H.next+n}:=⟨rfl,Nat.le_add_right _ _,λ_ h=>h,λa _ cs m h=>⟨m.tip,h,λh=>h,λ_=>rfl⟩⟩
def Mem.more{p:PSt}(M:Mem J I p H)(n:Nat):Mem J I p {H with next:=H.next+n}:=
 ⟨M.le,λid a h=>Nat.lt_of_lt_of_le (M.lt id a h) (Nat.le_add_right _ _),M.inj,M.live,λid o h=>(M.get id o h).keep (I1:=jS) (wY n) (.refl H J) rfl (λ_ _=>rfl) λi off hi _=>⟨rfl,hi⟩,
  λa ha=>M.free a (Nat.le_trans (Nat.le_add_right _ _) ha),M.ver⟩
def FR.more(F:FR J I H S A)(n:Nat):FR J I {H with next:=H.next+n} S A:=F.keep (I1:=jS) (wY n) (.refl H J) λi t hi _=>⟨rfl,hi⟩
def Adv.more{p:PSt}(n:Nat):Adv J I p H J I p {H with next:=H.next+n}:=⟨(wY n).weak λ_ _=>rfl,.refl H J,.refl H I,.refl p,λa cs m h=>⟨cs,m.tip,h⟩,λ_ _ h _=>⟨rfl,h⟩⟩
def Mem.cln{p:PSt}(M:Mem J I p H):Mem J I (PI.cln p) H:=⟨M.le,M.lt,M.inj,M.live,M.get,M.free,M.ver⟩
def Mem.dty{p':PSt}(M:Mem J I p' H)(p:PSt):Mem J I (PI.dty p p') H:=⟨M.le,M.lt,M.inj,M.live,M.get,M.free,M.ver⟩
def Adv.dty{p p':PSt}(h:Adv J I (PI.cln p) H J' I' p' H'):Adv J I p H J' I' (PI.dty p p') H':=
 ⟨h.keep,h.mon,h.out,⟨h.dp.next,λid hi=>h.dp.dirty id hi,λid hi=>eP.2 (.inr hi),λk hk hd=>h.dp.mem k hk hd⟩,h.rz,λid a hi hd=>h.bx id a hi λhh=>hd (eP.2 (.inl hh))⟩
def Lp{pc:fI}{ac:FuncId->Array Value->St->Option (Value×St)}(bm:jD pc ac){α id:Nat}{ops:Array Oper}{draw:Bool}{ms:List Nat}{sc:List wJ}{p p':PSt}{S':PS}
    (bw:dX P α (.region id ops draw)=true) (du:nE (.region id ops draw ms sc)) (M:Mem J I p H) (F:FR J I H S A)
    (h:(bif draw then(WJ ops (jV P pc ops ms sc [] S (cln p))).map (λr=>(r.1,dty p r.2))else tK P pc ops sc S p)=some (S',p')):
    ∃A' H' J' I',iC P ac ops draw A H=some (A',H')/\Mem J' I' p' H'/\FR J' I' H' S' A'/\Adv J I p H J' I' p' H'/\(∀j,j<H.next->H.get j=none->H'.get j=none):=by
 simp only[dX,aC,bJ,Bool.or_eq_true,Bool.not_eq_true']at bw;obtain⟨dq,hdr⟩:=bw;have qg: ∀o∈ops.toList,o.op.operands.all (cI P)=true:=λo ho=>by
  have:=dq o ho;simp only[pY,aC]at this;exact this.2
 unfold iC;cases draw with
 |false=>
  simp only[aJ]at h⊢;simp only[nE]at du;obtain⟨A',H',J',I',h1,h2,h3,h4,h5⟩:=aBG bm (base:=H.next) qg sc 0 J I S p A {H with next:=H.next+ops.size} S' p' (by simpa [List.range_eq_range']using du) (Nat.zero_le _) (aS _)
   (λj _ hj=>M.free _ (Nat.le_add_right _ _)) (M.more _) (F.more _) h
  exact⟨A',H',J',I',h1,h2,h3,(Adv.more _).trans h4,λj hj hn=>h5 j hj hn⟩
 |true=>
  simp only[aI]at h⊢;simp only[nE,bO]at du;obtain⟨rfl,du⟩:=du;have hD:=hdr.resolve_left (by simp)
  obtain⟨ge,bh⟩:=C2 hD;simp only[aF,aB]at h;obtain⟨⟨S2,p2⟩,h,rfl,rfl⟩:=h;obtain⟨h,htw⟩:=SM h;obtain⟨A',H',J',I',h1,h2,h3,h4,h5⟩:=Ur bm (base:=H.next) qg sc [] [] J I S (cln p) A {H with next:=H.next+ops.size} S2 p2 (by rw[du];exact ge)
   (λj hj=>⟨(bh j (by rw[<-du];exact hj)).1,M.free _ (Nat.le_add_right _ _)⟩) (aS _) (λr hr=>by simp at hr) (M.cln.more _) (F.more _) h
  rw[du]at h1;refine⟨A',H',J',I',?_,h2.dty p,h3,(Adv.more _).trans h4.dty,λj hj hn=>h5 j hj hn⟩
  rw[h1];simp only[WH,aCc h2 h3 htw,aI]
def aOk(P:Program)(ac:FuncId->Array Value->St->Option (Value×St))(L:Nat)(run:PS->PSt->Option (Fl×PS×PSt))(qc:Slots->St->Option (Fl×Slots×St)):Prop:=
 ∀(J:Nu) (I:Ga) (S:PS) (p:PSt) (A:Slots) (H:St) (fl:Fl) (S':PS) (p':PSt),Mem J I p H->FR J I H S A->run S p=some (fl,S',p')->
  ∃A' H' J' I',qc A H=some (fl,A',H')/\Mem J' I' p' H'/\FR J' I' H' S' A'/\Adv J I p H J' I' p' H'/\(∀j,j<H.next->H.get j=none->H'.get j=none)
def V4{ac:FuncId->Array Value->St->Option (Value×St)}{L:Nat}{run:PS->PSt->Option (Fl×PS×PSt)}{qc:Slots->St->Option (Fl×Slots×St)}(h:aOk P ac L run qc): ∀n,aOk P ac L (vR run n) (sA qc n):=by
 intro n;induction n with
 |zero=>intro J I S p A H fl S' p' M F hr;simp only[vR]at hr;cases hr
 |succ n ih=>
  intro J I S p A H fl S' p' M F hr;simp only[vR]at hr;simp only[sA];cases hb:run S p with
  |none=>rw[hb]at hr;cases hr
  |some r=>
   obtain⟨f1,S1,p1⟩:=r;rw[hb]at hr;obtain⟨A1,H1,J1,I1,k1,k2,k3,k4,k5⟩:=h J I S p A H f1 S1 p1 M F hb;rw[k1];cases f1 with
   |normal=>
    simp only at hr⊢;obtain⟨A',H',J',I',j1,j2,j3,j4,j5⟩:=ih J1 I1 S1 p1 A1 H1 fl S' p' k2 k3 hr;exact⟨A',H',J',I',j1,j2,j3,k4.trans j4,λj hj hn=>j5 j (Nat.lt_of_lt_of_le hj k4.keep.next) (k5 j hj hn)⟩
   |exit m=>
    simp only[aA,aB]at hr;obtain⟨rfl,rfl,rfl⟩:=hr;exact⟨A1,H1,J1,I1,rfl,k2,k3,k4,k5⟩
   |ret=>
    simp only[aA,aB]at hr;obtain⟨rfl,rfl,rfl⟩:=hr;exact⟨A1,H1,J1,I1,rfl,k2,k3,k4,k5⟩
def WS{pc:fI}{ac:FuncId->Array Value->St->Option (Value×St)}(bm:jD pc ac)(L α:Nat): ∀(c:PC),nE c->dX P α (dY c)=true->aOk P ac L (eM P pc L c) (cR P ac L (dY c)):=by
 intro c;induction c with
 |skip=>
  intro _ _ J I S p A H fl S' p' M F h;simp only[eM,aA,aB]at h;obtain⟨rfl,rfl,rfl⟩:=h;exact⟨A,H,J,I,rfl,M,F,.refl J I _ H,λj _ h=>h⟩
 |label l=>
  intro _ _ J I S p A H fl S' p' M F h;simp only[eM,aA,aB]at h;obtain⟨rfl,rfl,rfl⟩:=h;exact⟨A,H,J,I,rfl,M,F,.refl J I _ H,λj _ h=>h⟩
 |region id ops draw ms sc=>
  intro hk bw J I S p A H fl S' p' M F h;simp only[eM,aF,aB]at h;obtain⟨⟨S1,p1⟩,hr,rfl,rfl,rfl⟩:=h;obtain⟨A',H',J',I',h1,h2,h3,h4,h5⟩:=Lp bm bw hk M F hr;exact⟨A',H',J',I',by simp only[dY,cR,h1];rfl,h2,h3,h4,h5⟩
 |seq a b cy fi=>
  intro hk bw J I S p A H fl S' p' M F h;simp only[dY,dX,aC]at bw;simp only[eM]at h;simp only[dY,cR];cases hb:eM P pc L a S p with
  |none=>rw[hb]at h;cases h
  |some r=>
   obtain⟨f1,S1,p1⟩:=r;rw[hb]at h;obtain⟨A1,H1,J1,I1,k1,k2,k3,k4,k5⟩:=cy hk.1 bw.1 J I S p A H f1 S1 p1 M F hb;rw[k1];cases f1 with
   |normal=>
    simp only at h⊢;obtain⟨A',H',J',I',j1,j2,j3,j4,j5⟩:=fi hk.2 bw.2 J1 I1 S1 p1 A1 H1 fl S' p' k2 k3 h;exact⟨A',H',J',I',j1,j2,j3,k4.trans j4,λj hj hn=>j5 j (Nat.lt_of_lt_of_le hj k4.keep.next) (k5 j hj hn)⟩
   |exit m=>
    simp only[aA,aB]at h;obtain⟨rfl,rfl,rfl⟩:=h;exact⟨A1,H1,J1,I1,rfl,k2,k3,k4,k5⟩
   |ret=>
    simp only[aA,aB]at h;obtain⟨rfl,rfl,rfl⟩:=h;exact⟨A1,H1,J1,I1,rfl,k2,k3,k4,k5⟩
 |cond x a b cy fi=>
  intro hk bw J I S p A H fl S' p' M F h;simp only[dY,dX,aC]at bw;simp only[eM]at h;have hx:=cU F bw.1.1;split at h
  .rename_i e;rw[e]at hx;obtain⟨A',H',J',I',k1,k2⟩:=cy hk.1 bw.1.2 J I S p A H fl S' p' M F h;refine⟨A',H',J',I',?_,k2⟩;simp only[dY,cR];generalize ev A x=w at hx;cases hx;exact k1
  .rename_i e;rw[e]at hx;obtain⟨A',H',J',I',k1,k2⟩:=fi hk.2 bw.2 J I S p A H fl S' p' M F h;refine⟨A',H',J',I',?_,k2⟩;simp only[dY,cR];generalize ev A x=w at hx;cases hx;exact k1
  .cases h
 |block id c ih=>
  intro hk bw J I S p A H fl S' p' M F h;simp only[dY,dX]at bw;simp only[eM]at h;simp only[dY,cR];cases hb:eM P pc L c S p with
  |none=>rw[hb]at h;cases h
  |some r=>
   obtain⟨f1,S1,p1⟩:=r;rw[hb]at h;obtain⟨A1,H1,J1,I1,k1,k2,k3,k4,k5⟩:=ih hk bw J I S p A H f1 S1 p1 M F hb;rw[k1];cases f1 with
   |normal=>
    simp only[aA,aB]at h;obtain⟨rfl,rfl,rfl⟩:=h;exact⟨A1,H1,J1,I1,rfl,k2,k3,k4,k5⟩
   |exit m=>
    simp only at h⊢;cases he:Nat.beq m id with
    |true=>
     simp only[he,aI,aA,aB]at h⊢;obtain⟨rfl,rfl,rfl⟩:=h;exact⟨A1,H1,J1,I1,⟨rfl,rfl,rfl⟩,k2,k3,k4,k5⟩
    |false=>
     simp only[he,aJ,aA,aB]at h⊢;obtain⟨rfl,rfl,rfl⟩:=h;exact⟨A1,H1,J1,I1,⟨rfl,rfl,rfl⟩,k2,k3,k4,k5⟩
   |ret=>
    simp only[aA,aB]at h;obtain⟨rfl,rfl,rfl⟩:=h;exact⟨A1,H1,J1,I1,rfl,k2,k3,k4,k5⟩
 |loop c ih=>
  intro hk bw;simp only[dY,dX]at bw;exact V4 (ih hk bw) L
 |exit id=>
  intro _ _ J I S p A H fl S' p' M F h;simp only[eM,aA,aB]at h;obtain⟨rfl,rfl,rfl⟩:=h;exact⟨A,H,J,I,rfl,M,F,.refl J I _ H,λj _ h=>h⟩
 |ret=>
  intro _ _ J I S p A H fl S' p' M F h;simp only[eM,aA,aB]at h;obtain⟨rfl,rfl,rfl⟩:=h;exact⟨A,H,J,I,rfl,M,F,.refl J I _ H,λj _ h=>h⟩
 |scope c ih=>
  intro hk bw;simp only[dY,dX]at bw;exact ih hk bw
 |other c=>intro _ _ J I S p A H fl S' p' M F h;simp only[eM]at h;cases h
 |drop ts c ih=>
  intro hk bw J I S p A H fl S' p' M F h;simp only[eM]at h;exact ih hk bw J I _ p A H fl S' p' M (F.keeps ts) h
 |ice t c ih=>
  intro hk bw J I S p A H fl S' p' M F h;simp only[eM]at h;split at h
  .rename_i S1 p1 h1;obtain⟨J1,M1,F1,A1⟩:=uH M F h1;obtain⟨A',H',J',I',k1,k2,k3,k4,k5⟩:=ih hk bw J1 I S1 p1 A H fl S' p' M1 F1 h;exact⟨A',H',J',I',k1,k2,k3,A1.trans k4,k5⟩
  .cases h
def JV: ∀(l:List (PV×Bool)) (i:Nat) (S:PS) (k:Nat),(wA l i S).at k=if i<=k/\k<i+l.length then(l[k-i]?).getD (.und,false)else S.at k:=by
 intro l;induction l with
 |nil=>intro i S k;simp[wA];omega
 |cons x l ih=>
  intro i S k;simp only[wA,ih,mU,aM];by_cases h:k=i
  .subst h;simp;omega
  .by_cases h2:i+1<=k/\k<i+1+l.length
   .rw[bI h2,bI (by omega),show k-i=(k-(i+1))+1 by omega,aT]
   .rw[bH h2,bH h,bH (by omega)]
def FR.fill{args:List (PV×Bool)}{us:List Value}(r:RL J H (args.map (·.1)) us)(ho: ∀(i:Nat) (x:PV) (w:Value),args[i]?=some (x,true)->us[i]?=some w->Ow J I H (.slot i) x w):FR J I H (wA args 0 .none) (fU us 0 .nil):=by
 intro t;rw[JV,BL];have hl:args.length=us.length:=by have:=r.1;simpa using this
 by_cases h:0<=t/\t<0+args.length
 .rw[bI h,bI (by rw[<-hl];exact h)]
  have h1:args[t]?=some (args[t]'(by omega)):=aV _
  obtain⟨u,h2,h3⟩:=r.get (i:=t) (x:=(args[t]'(by omega)).1) (by rw[List.getElem?_map,h1];rfl)
  simp only[Nat.sub_zero,h1,h2,Option.getD_some];refine⟨h3,λhb=>ho t _ u ?_ h2⟩
  rw[h1,<-hb]
 .rw[bH h];exact⟨.und _,λh=>(by cases h)⟩
def HV{p:PSt}(M:Mem J I p H)(F:FR J I H S A): ∀(l:List ResultVar) (vs:List (PV×Bool)),fX P S p l=some vs->∃us,cO P A H l=some us/\RL J H (vs.map (·.1)) us:=by
 intro l;induction l with
 |nil=>intro vs h;simp only[fX,aA]at h;subst h;exact⟨[],rfl,.nil⟩
 |cons r l ih=>
  intro vs h;simp only[fX]at h;split at h
  .rename_i v nn hv jv;simp only[aA]at h;subst h;obtain⟨us,h1,h2⟩:=ih nn jv;have: ∃u,oH P A H r=some u/\R J H v.1 u:=by
    cases r with
    |tmp t=>simp only[pV,aA]at hv;subst hv;exact⟨_,rfl,(F t).1⟩
    |cell a t=>
     simp only[pV,aF]at hv;obtain⟨v',hl,rfl⟩:=hv;exact Ba M (F a).1 hl
   obtain⟨u,h3,h4⟩:=this;exact⟨u::us,by simp only[cO,h3,h1],.cons h4 h2⟩
  .cases h
def WK{p:PSt}(M:Mem J I p H)(F:FR J I H S A){r:ResultVar}{l:List ResultVar}{v:PV×Bool}{vs:List (PV×Bool)}(h:fX P S p (r::l)=some (v::vs)){u:Value}{us:List Value}(h1:cO P A H (r::l)=some (u::us))(h3:R J H v.1 u):
    ∃I',(((v.2||jW v.1)&& !Ff v.1)=true->Ow J I' H .hand (wk v.1) u)/\G2 I I':=by
 cases r with
 |tmp t=>
  have hv:v=S.at t:=by
   simp only[fX,pV]at h;split at h
   .rename_i v' nn e1 e2;simp only[aA,List.cons.injEq]at h e1;rw[<-h.1,<-e1]
   .cases h
  have hu:u=A.at t:=by
   simp only[cO,oH]at h1;split at h1
   .rename_i v' nn e1 e2;simp only[aA,List.cons.injEq]at h1 e1;rw[<-h1.1,<-e1]
   .cases h1
  refine⟨PI.mv (.slot t) .hand I,λho=>?_,.mv (by simp) (by simp)⟩
  simp only[aC]at ho;subst hv;subst hu;have how:Ow J (PI.mv (.slot t) .hand I) H .hand (S.at t).1 (A.at t):=by
   cases hs:(S.at t).2 with
   |true=>exact((F t).2 hs).mv (k':= .hand)
   |false=>
    rw[hs,Bool.false_or]at ho;have h5:=(F t).1;cases hx:(S.at t).1 with
    |nil=>rw[hx]at h5;generalize A.at t=w at h5⊢;cases h5;exact .nil _
    |_=>rw[hx]at ho;cases ho.1
  exact how.wk (by simpa using ho.2)
 |cell a t=>
  refine⟨I,λho=>?_,.refl I⟩
  simp only[fX,pV]at h;split at h
  .rename_i v' nn e1 e2;simp only[aA,List.cons.injEq]at h;simp only[aF]at e1;obtain⟨v2,_,rfl⟩:=e1;simp only[<-h.1,Bool.false_or,aC]at ho⊢;rw[<-h.1]at h3;cases v2 with
   |nil=>cases h3;exact .nil _
   |_=>cases ho.1
  .cases h
def MI{p:PSt}(M:Mem J I p H)(F:FR J I H S A){l:List ResultVar}{vs:List (PV×Bool)}(h:fX P S p l=some vs):
    ∃us I',cO P A H l=some us/\R J H (dZ vs).1 (kN us)/\((dZ vs).2=true->Ow J I' H .hand (dZ vs).1 (kN us))/\G2 I I':=by
 obtain⟨us,h1,h2⟩:=HV M F l vs h;cases vs with
 |nil=>
  have:=h2.nil_inv;subst this;exact⟨[],I,h1,.mkTup .nil,λh=>(by cases h),.refl I⟩
 |cons v vs=>
  cases l with
  |nil=>simp[fX]at h
  |cons r l=>
   obtain⟨u,gm,rfl,h3,h4⟩:=h2.cons_inv;obtain⟨I',g1,g2⟩:=WK M F h h1 h3;cases vs with
   |nil=>
    have:=h4.nil_inv;subst this;exact⟨[u],I',h1,h3.wk,g1,g2⟩
   |cons v2 vs=>
    obtain⟨u2,us'',rfl,h5,h6⟩:=h4.cons_inv;refine⟨_,I',h1,.mkTup h2.wks,λh=>?_,g2⟩
    simp only[dZ]at h;rw[aC]at h;refine .tup _ _ u _ ?_ (g1 h.1);have h5:=h.2;show(wk v.1).one=true;generalize v.1=x at h5⊢;cases x with
    |sl z es=>cases es<;>rfl
    |emp=>rfl
    |nil=>rfl
    |_=>cases h5
end
end Go.PI
namespace Go.PI
open Go.AI
def aPJ:List Nat->List Nat->List Nat
 |[],l=>l
 |x::xs,l=>bif l.contains x then aPJ xs l else x::aPJ xs l
def del(l:List Nat)(k:List Nat):List Nat:=l.filter λx=> !k.contains x
def aFy:Operand->List Nat
 | .tmp t=>[t]
 |_=>[]
def aJt(ops:Array Oper)(o:Oper):List Nat:=
 o.op.operands.toList.flatMap aFy++(match o.guard with|some (j,_)=>(match ops[j]? with|some q=>q.dst.toList|none=>[])|none=>[])
def Qd(ops:Array Oper):List Oper->List Nat->List Nat
 |[],out=>out
 |o::os,out=>aPJ (aJt ops o) (del (Qd ops os out) o.dst.toList)
def lv(rs:List Nat):Code->List Nat->List (Nat×List Nat)->List Nat
 | .region _ ops _,out,_=>Qd ops ops.toList out
 | .seq a b,out,ex=>lv rs a (lv rs b out ex) ex
 | .cond c a b,out,ex=>aPJ (aFy c) (aPJ (lv rs a out ex) (lv rs b out ex))
 | .block id c,out,ex=>lv rs c out ((id,out)::ex)
 | .loop c,_,ex=>lv rs c [] ex
 | .exit id,_,ex=>match ex.find? λe=>Nat.beq e.1 id with|some e=>e.2|none=>[]
 | .ret,_,_=>rs
 | .scope c,out,ex=>lv rs c out ex
 |_,out,_=>out
def aGn(ops:Array Oper)(a i s:Nat):Bool:=
 match ops[a]?,ops[i]?,ops[s]? with
 |some oA,some oI,some oS=>
  match oA.op,oA.dst,oI.op,oI.dst,oS.op with
  | .call c,some d,.indexAddr _ (.tmp d') _,some b,.store _ (.tmp b') _=>mM oA&&Nat.beq d d'&&Nat.beq b b'
  |_,_,_,_,_=>false
 |_,_,_=>false
end Go.PI
namespace Go.PI
open Go.AI
section
variable{P:Program}{J J' J'':Nu}{I I1 I':Ga}{H H':St}{S:PS}{A:Slots}
def a0G:OV->PV
 | .s l=> .str l
 | .t=> .v (.bool true)
def aCa(O:CJ)(f:FuncId)(args:List (PV×Bool)):Option OV:=
 bif Nat.beq f O.n then(match args with
 |[(.v (.int .i64 a),_),(.v (.int .i64 b),_)]=>(O.s a b).map .s
 |_=>none)else bif Nat.beq f O.m then(match args with
 |[]=>some .t
 |_=>none)else none
def aGr(O:CJ)(f:FuncId)(args:List (PV×Bool)):Bool:=
 bif Nat.beq f O.n then(match args with
 |[(.v (.int .i64 a),_),(.v (.int .i64 b),_)]=>true
 |_=>false)else bif Nat.beq f O.m then(match args with
 |[]=>true
 |_=>false)else true
variable(P) in
def yQ(pc:fI)(L:Nat)(c:PC)(rs:List ResultVar)(args:List (PV×Bool))(p:PSt):Option (PV×Bool×PSt):=match eM P pc L c (wA args 0 .none) (aOC p)with
 |some (.exit _,_,_)=>none
 |some (_,S,p')=>match fX P S p' rs with
  |some vs=>some ((dZ vs).1,(dZ vs).2,settle p (dZ vs).1 p')
  |none=>none
 |none=>none
variable(P) in
def oM(O:CJ)(G:ZI)(L:Nat):Nat->fI
 |0,_,_,_=>none
 |n+1,f,args,p=>match aCa O f args with
  |some s=>some (a0G s,false,p)
  |none=>bif !aGr O f args|| !Gd P f args.length then none else match G f with
   |some (c,rs)=>yQ P (oM O G L n) L c rs args p
   |none=>none
def R.int_inv{x:Int}{k:IntKind}{u:Value}(h:R J H (.v (.int k x)) u):u= .int k x:=by cases h;rfl
def Vi{O:CJ}{f:FuncId}{args:List (PV×Bool)}{us:Array Value}(r:RL J H (args.map (·.1)) us.toList)(h:aGr O f args=true):aOE O f us=(aCa O f args).map OV.v:=by
 unfold aGr at h;unfold aOE aCa;cases hf:Nat.beq f O.n with
 |false=>
  rw[hf,aJ]at h;simp only[aJ];cases hm:Nat.beq f O.m with
  |false=>rfl
  |true=>
   rw[hm,aI]at h;simp only[aI];split at h
   .obtain⟨hl,_⟩:=r
    match hu:us.toList,hl with
    |[],_=>rfl
   .cases h
 |true=>
  rw[hf,aI]at h;simp only[aI];split at h
  .rename_i a o1 b o2;obtain⟨hl,hr⟩:=r
   match hu:us.toList,hl,hr with
   |[u,v],_,hr=>
    have e1:=R.int_inv (hr 0 _ u rfl rfl);have e2:=R.int_inv (hr 1 _ v rfl rfl);rw[e1,e2]
  .cases h
def aMy{O:CJ}{f:FuncId}{args:List (PV×Bool)}{s:OV}(h:aCa O f args=some s):aGr O f args=true:=by
 unfold aCa at h;unfold aGr;cases hf:Nat.beq f O.n with
 |false=>
  rw[hf,aJ]at h;rw[aJ];cases hm:Nat.beq f O.m with
  |false=>rfl
  |true=>
   rw[hm,aI]at h;rw[aI];split at h
   .rfl
   .cases h
 |true=>
  rw[hf,aI]at h;rw[aI];split at h
  .rfl
  .cases h
def Gs(P C:Program)(G:ZI):Prop:=
 ∀f c rs,G f=some (c,rs)->∃fn,C.funcs[f]?=some fn/\fn.body=some (dY c)/\rs=fn.results.toList/\nE c/\dX P fn.ntmps (dY c)=true
def AS{pc:fI}{ac:FuncId->Array Value->St->Option (Value×St)}(ih:jD pc ac){L:Nat}{c:PC}{fn:Func}(h4:nE c)(h5:dX P fn.ntmps (dY c)=true){args:List (PV×Bool)}{p p':PSt}{v:PV}{own:Bool}
    (h:yQ P pc L c fn.results.toList args p=some (v,own,p')) {J:Nu} {I:Ga} {H:St} {us:Array Value} (M:Mem J I p H) (r:RL J H (args.map (·.1)) us.toList)
    (ho: ∀(i:Nat) (x:PV) (w:Value),args[i]?=some (x,true)->us.toList[i]?=some w->Ow J I H (.slot i) x w):
    ∃u H' J' I',pM P fn (cR P ac L (dY c) (fU us.toList 0 .nil) H)=some (u,H')/\R J' H' v u/\(own=true->Ow J' I' H' .hand v u)/\Mem J' I' p' H'/\Adv J I p H J' I' p' H'/\∀j,j<H.next->H.get j=none->H'.get j=none:=by
 unfold yQ at h;have M0:Mem J I (aOC p) H:=⟨M.le,M.lt,M.inj,M.live,M.get,M.free,M.ver⟩;have key: ∀fl S' p1,eM P pc L c (wA args 0 .none) (aOC p)=some (fl,S',p1)->(∀k,fl≠ .exit k)->∀vs,fX P S' p1 fn.results.toList=some vs->
      v=(dZ vs).1->own=(dZ vs).2->p'=settle p (dZ vs).1 p1->
      ∃u H' J' I',pM P fn (cR P ac L (dY c) (fU us.toList 0 .nil) H)=some (u,H')/\R J' H' v u/\(own=true->Ow J' I' H' .hand v u)/\Mem J' I' p' H'/\Adv J I p H J' I' p' H'/\∀j,j<H.next->H.get j=none->H'.get j=none:=by
  intro fl S' p1 he bn vs jv hv kg ph;obtain⟨A',H1,J1,I1,k1,k2,k3,k4,k5⟩:=WS ih L fn.ntmps c h4 h5 J I _ _ (fU us.toList 0 .nil) H fl S' p1 M0 (FR.fill r ho) he;obtain⟨gm,I2,j1,j2,j3,j4⟩:=MI k2 k3 jv;obtain⟨J3,m1,m2,m3,m4⟩:=Sf (own:=(dZ vs).2) M (k2.g2 j4) (k4.trans (.g j4.out)) j2 j3;rw[k1];subst hv;subst kg;subst ph;refine⟨kN gm,H1,J3,I2,?_,m1,m2,m3,m4,k5⟩;cases fl with
  |normal=>simp only[pM,j1];rfl
  |ret=>simp only[pM,j1];rfl
  |exit k=>exact absurd rfl (bn k)
 split at h
 .cases h
 .rename_i fl S' p1 bn he;split at h
  .rename_i vs jv;simp only[aA,aB]at h;exact key fl S' p1 he (λk e=>bn k e) vs jv h.1.symm h.2.1.symm h.2.2.symm
  .cases h
 .cases h
def Ei{C:Program}{O:CJ}{G:ZI}(hw:O.w=none)(hG:Gs P C G)(L:Nat): ∀n,jD (oM P O G L n) (wG P C O L n):=by
 intro n;induction n with
 |zero=>intro g args p v own p' h;simp only[oM]at h;cases h
 |succ n ih=>
  intro g args p v own p' h J I H us M r ho;simp only[oM]at h;split at h
  .rename_i s hs;simp only[aA,aB]at h;obtain⟨rfl,rfl,rfl⟩:=h;refine⟨s.v,H,J,I,by simp only[wG,Vi r (aMy hs),hs,aK],(match s with| .s l=>R.str ⟨l.toArray⟩| .t=>R.v _ rfl),λh=>(by cases h),M,Adv.refl J I p H,λj _ h=>h⟩
  rename_i dn;cases ma:aGr O g args with
  |false=>rw[ma]at h;cases h
  |true=>
  rw[ma]at h;cases nk:Gd P g args.length with
  |false=>rw[nk]at h;cases h
  |true=>
  rw[nk]at h;simp only[bD,Bool.or_self,aJ]at h;have hus:us.size=args.length:=by have:=r.1;simpa using this.symm
  have ly:aOE O g us=none:=by rw[Vi r ma,dn];rfl
  have hnw:aXE O g us H=none:=by unfold aXE;rw[hw]
  split at h
  .rename_i c rs hg;obtain⟨fn,h1,h2,rfl,h4,h5⟩:=hG g c rs hg;simp only[wG,ly,hnw,hus,nk,aI,h1,h2];exact AS ih h4 h5 h M r ho
  .cases h
end
end Go.PI
