import Derived.Test.YtgddcoodncbkoaaGreatDoorKg
set_option linter.unusedVariables false
set_option linter.unusedSimpArgs false
set_option linter.constructorNameAsVariable false
set_option linter.defProp false
namespace Go.PI
open Go.AI
def Rz(H H':St):Prop:= ∀a cs m,H.get a=some (.cells cs m)->∃cx b,H'.get a=some (.cells cx {m with tip:=b})
def g00:Ga:=λ_=>none
section
variable{P:Program}{J J':Nu}{I I1 I':Ga}{H H':St}{S:PS}{A:Slots}{base:Nat}
def Qt.put{id:Nat}{o:AObj}(hf:H.get id=none):Qt H (H.put id o):=
 ⟨rfl,λa ob h=> .inl (by rw[aL,if_neg (λe=>by rw[e,hf]at h;cases h)];exact h)⟩
def Qt.row(q:Qt H H'){id:Nat}{cs:List Value}{m:Mta}(h:H.row id=some (cs,m)): ∃b,H'.row id=some (cs,{m with tip:=b}):=by
 obtain⟨h1,h2⟩:=bQ h;rcases q.get id _ h1 with e|⟨cx,m',b,e1,_,e2⟩
 ·exact⟨m.tip,aU e (by rw[iQ q.vers];exact h2)⟩
 ·simp only[AObj.cells.injEq]at e1;obtain⟨rfl,rfl⟩:=e1;exact⟨b,aU e2 (by rw[iQ q.vers];exact h2)⟩
def aMN{t:TypeId}{w u:Value}(bh: ∀id cs m,H.row id=some (cs,m)->∃m',H'.row id=some (cs,m'))(h:kV P H t w=some u):kV P H' t w=some u:=by
 unfold kV at h⊢;split at h
 ·split at h
  ·rename_i cs m hr;obtain⟨m',cb⟩:=bh _ _ _ hr;simp only[cb];exact h
  ·cases h
 ·cases h
def aIr{t:TypeId}{w u:Value}{lo hi mx:Option Value}(bh: ∀id cs m,H.row id=some (cs,m)->∃cx m',H'.row id=some (cx,m')/\m'.z=m.z)
    (hex: ∀id off n c,w= .slice (some ⟨id,off,none⟩) n c->∃cs m,H.row id=some (cs,m)) (h:qX P H t w lo hi mx=some u):qX P H' t w lo hi mx=some u:=by
 unfold qX at h⊢;split at h
 ·exact h
 ·rename_i e he;split at h
  ·rename_i a len c;split at h
   ·rename_i z l hh m e1 e2 e3 e4;cases hc:decide (0<=l.getD 0)&&decide (l.getD 0<=hh.getD (len:Int))&&decide (hh.getD (len:Int)<=(len:Int))with
    |false=>simp only[hc,cdf]at h;cases h
    |true=>
     simp only[hc,cdt]at h⊢;split at h
     ·exact h
     ·rename_i id off;obtain⟨cs,mm,hr⟩:=hex id off len c rfl;obtain⟨cx,m',cb,nd⟩:=bh _ _ _ hr;have:vI H' id z=vI H id z:=by simp only[vI,hr,cb,nd]
      rw[this];exact h
     ·exact h
   ·cases h
  ·cases h
 ·split at h
  ·rename_i id off _ _;cases hz:vI H id 0 with
   |false=>rw[hz]at h;cases h
   |true=>
    have:vI H' id 0=true:=by
     unfold vI at hz⊢;split at hz
     ·rename_i cs m hr;obtain⟨cx,m',cb,nd⟩:=bh _ _ _ hr;simp only[cb,nd];exact hz
     ·cases hz
    rw[hz]at h;rw[this];exact h
  ·cases h
 ·cases h
def aload_qt(q:Qt H H'){Z:Operand->Value}{o:Oper}{t:TypeId}{a:Operand}(ho:o.op= .load t a){v:Value}(h:iT P H Z o=some v):iT P H' Z o=some v:=by
 simp only[iT,ho]at h⊢;refine aMN (λid cs m hr=>?_) h
 obtain⟨b,hb⟩:=q.row hr;exact⟨_,hb⟩
def aAI(q:Qt H H'){r:iW}(hl:r.ob=none->∃t a,r.o.op= .load t a)(hb: ∀ob,r.ob=some ob->(∀a,H.get a=some ob->H'.get a=some ob))(h:check P base H r=true):check P base H' r=true:=by
 unfold check at h⊢;split at h
 ·rename_i e;split at h
  ·rename_i v hv;obtain⟨t,a,ho⟩:=hl e;simp only[aload_qt q ho hv];exact h
  ·cases h
 ·rename_i ob e;split at h
  ·rename_i ob' hg;have:=wK h;subst this;simp only[hb ob' e _ hg];exact h
  ·cases h
def Stab(P:Program)(base:Nat)(J:Nu)(H:St)(r:iW):Prop:= ∀J' H',Keep J g00 H H'->Mon H J J'->Rz H H'->check P base H' r=true
def Stab.adv{p p':PSt}{r:iW}(h:Stab P base J H r)(a:Adv J I p H J' I' p' H'):Stab P base J' H' r:=by
 intro J'' H'' k m z;refine h J'' H'' (Keep.trans (I:=g00) (I':=g00) (a.keep.weak λ_ h=>by cases h) a.mon k (.refl H _)) (a.mon.trans m a.keep.dom) λx cs mm hx=>?_
 obtain⟨cx,b,h1⟩:=a.rz x cs mm hx;obtain⟨sw,b',h2⟩:=z x cx _ h1;exact⟨sw,b',h2⟩
def Looks(base:Nat)(r:iW)(a:Nat):Prop:=(r.ob=none/\∃t x off,r.o.op= .load t x/\ev r.S x= .pointer (some ⟨a,off,none⟩))∨(r.ob≠none/\base+r.i=a)
def aIn{r:iW}{a:Nat}(hl:Looks base r a)(hg:H'.get a=H.get a)(hv:H'.vers=H.vers)(h:check P base H r=true):check P base H' r=true:=by
 unfold check at h⊢;rcases hl with⟨h1,t,x,off,h2,h3⟩|⟨h1,h2⟩
 ·rw[h1]at h⊢;have bh:H'.row a=H.row a:=by
   simp only[St.row,hg];cases H.get a with
   |none=>rfl
   |some o=>cases o with
    |cells cs m=>simp only[iQ hv]
    |map es=>rfl
  simp only[iT,h2,kV,h3,bh]at h⊢;exact h
 ·cases dw:r.ob with
  |none=>exact absurd dw h1
  |some ob=>rw[dw]at h;simp only[h2,hg]at h⊢;exact h
structure Trk(P:Program)(base:Nat)(J:Nu)(p:PSt)(H:St)(q:gV)(r:iW):Prop where
 cl: ∀id,cid q.o q.a q.v=some id->id∉p.wr->∃a,J id=some (some a)/\Looks base r a/\check P base H r=true
 i:q.i=r.i
 ok:q.stale=false->check P base H r=true
 box:gZ q.o=false->∀ob,r.ob=some ob->∃cs,ob= .cells cs boxMeta
 rd:r.ob=none->∃t a,r.o.op= .load t a
 ld: ∀t a,q.o.op= .load t a->r.ob=none/\r.o=q.o/\R J H q.a (ev r.S a)/\R J H q.v r.v
def Inv(P:Program)(base:Nat)(J:Nu)(p:PSt)(H:St)(Pl:List gV)(Rl:List iW):Prop:= ∀r∈Rl,Stab P base J H r∨∃q∈Pl,Trk P base J p H q r
def Trk.adv_cl{p p':PSt}{q:gV}{r:iW}(T:Trk P base J p H q r)(a:Adv J I p H J' I' p' H'): ∀id,cid q.o q.a q.v=some id->id∉p'.wr->∃a,J' id=some (some a)/\Looks base r a/\check P base H' r=true:=by
 intro id hid hd;obtain⟨b,h1,h2,h3⟩:=T.cl id hid λhh=>hd (a.dp.wr id hh)
 obtain⟨e1,e2⟩:=a.bx id b h1 hd;exact⟨b,e2,h2,aIn h2 e1 a.keep.vers h3⟩
mutual
def aFk: ∀{x y:PV},aBi x y=true->x=y
 | .v a,.v b,h=>by rw[lB a b h]
 | .str a,.str b,h=>by simp only[aBi,beq_iff_eq]at h;rw[h]
 | .agg xs,.agg ys,h=>by rw[aBg h]
 | .v _,.str _,h| .v _,.agg _,h| .v _,.tup _,h| .v _,.nil,h| .v _,.emp,h| .v _,.sl _ _,h| .v _,.pin _ _ _,h| .v _,.ptr _ _,h| .v _,.rs _ _ _,h| .v _,.mp _,h| .v _,.fn _ _ _,h| .v _,.und,h=>by simp[aBi]at h
 | .str _,.v _,h| .str _,.agg _,h| .str _,.tup _,h| .str _,.nil,h| .str _,.emp,h| .str _,.sl _ _,h| .str _,.pin _ _ _,h| .str _,.ptr _ _,h| .str _,.rs _ _ _,h| .str _,.mp _,h| .str _,.fn _ _ _,h| .str _,.und,h=>by simp[aBi]at h
 | .agg _,.v _,h| .agg _,.str _,h| .agg _,.tup _,h| .agg _,.nil,h| .agg _,.emp,h| .agg _,.sl _ _,h| .agg _,.pin _ _ _,h| .agg _,.ptr _ _,h| .agg _,.rs _ _ _,h| .agg _,.mp _,h| .agg _,.fn _ _ _,h| .agg _,.und,h=>by simp[aBi]at h
 | .tup _,_,h| .nil,_,h| .emp,_,h| .sl _ _,_,h| .pin _ _ _,_,h| .ptr _ _,_,h| .rs _ _ _,_,h| .mp _,_,h| .fn _ _ _,_,h| .und,_,h=>by simp[aBi]at h
def aBg: ∀{xs ys:List PV},aBh xs ys=true->xs=ys
 |[],[],_=>rfl
 |x::xs,y::ys,h=>by
  simp only[aBh,bjE]at h;rw[aFk h.1,aBg h.2]
 |[],_::_,h|_::_,[],h=>by simp[aBh]at h
end
def Inv.check{p:PSt}{Pl:List gV}{Rl:List iW}(γ:Inv P base J p H Pl Rl)(M:Mem J I p H)(h:Pl.all (lT P p)=true):Rl.all (AI.check P base H)=true:=by
 rw[List.all_eq_true]at h⊢;intro r hr;rcases γ r hr with hs|⟨q,hq,T⟩
 ·exact hs J H (.refl J g00 H) (.refl H J) λa cs m h=>⟨cs,m.tip,h⟩
 ·have hc:=h q hq;unfold lT at hc;cases bw:q.stale with
  |false=>exact T.ok bw
  |true=>
   rw[bw]at hc;simp only[bnT,Bool.false_or,Bool.or_eq_true]at hc;rcases hc with hc|hc
   ·cases si:cid q.o q.a q.v with
    |none=>rw[si]at hc;cases hc
    |some id=>
     rw[si]at hc;simp only[clean,Bool.not_eq_true',List.contains_eq_mem,dfN]at hc;obtain⟨_,_,_,h3⟩:=T.cl id si hc;exact h3
   split at hc
   ·rename_i t a ho;simp only[bjE]at hc;obtain⟨h1,h2,h3,h4⟩:=T.ld t a ho;cases hv:toV q.v with
    |none=>rw[hv]at hc;simp at hc
    |some w=>
     split at hc
     ·rename_i v' hl;have:=aFk hc.2;subst this;obtain⟨u,hu,cb⟩:=aAa M h3 hl;obtain⟨rfl,_⟩:=aFc hv cb;obtain⟨e,_⟩:=aFc hv h4;unfold AI.check;rw[h1];simp only[iT,h2,ho,hu];rw[e];exact gE _
     ·simp at hc
   ·cases hc
def aIx{id:Nat}{c:Call}{s x u:Value}(hf:H.get id=none)(h1:iH P H id c s x=some (u,H')):Qt H H':=by
 unfold iH at h1;split at h1
 ·split at h1
  ·rename_i e d _ _;cases hc:fits d x with
   |false=>rw[hc,cdf]at h1;cases h1
   |true=>
    rw[hc,cdt]at h1;split at h1
    ·rename_i info _;split at h1
     ·rename_i n xs z _ _;cases hc2:xs.all one&&Nat.ble 1 info.size&&Nat.ble 1 info.bytes&&Nat.beq z.cells.size info.size&&dQ s with
      |false=>rw[hc2,cdf]at h1;cases h1
      |true=>
       rw[hc2,cdt]at h1;cases hc3:Nat.beq n 0 with
       |true=>rw[hc3,cdt]at h1;simp only[ojE,pjE]at h1;obtain⟨_,rfl⟩:=h1;exact .refl H
       |false=>
        rw[hc3,cdf]at h1;unfold kC at h1;split at h1
        ·cases hc4:Nat.ble (n*info.bytes) 1073741824 with
         |false=>rw[hc4,cdf]at h1;cases h1
         |true=>rw[hc4,cdt]at h1;simp only[ojE,pjE]at h1;obtain⟨_,rfl⟩:=h1;exact .put hf
        ·rename_i id0 off len k;cases hc4:Nat.ble ((len+n)*info.bytes) 1073741824 with
         |false=>rw[hc4,cdf]at h1;cases h1
         |true=>
          rw[hc4,cdt]at h1;split at h1
          ·rename_i cs m bh;split at h1
           ·rename_i old _;cases hc5:Nat.beq k len with
            |true=>rw[hc5,cdt]at h1;simp only[ojE,pjE]at h1;obtain⟨_,rfl⟩:=h1;exact .put hf
            |false=>
             rw[hc5,cdf]at h1;cases hc6:m.tip&&m.wr&&Nat.beq m.z info.size&&Nat.beq (off+len*info.size) cs.length&&m.grp.isSome with
             |false=>rw[hc6,cdf]at h1;cases h1
             |true=>
              rw[hc6,cdt]at h1;simp only[ojE,pjE]at h1;obtain⟨_,rfl⟩:=h1;simp only[bjE]at hc6;refine⟨rfl,λa ob hg=>?_⟩
              rw[aL,if_neg (λe=>by rw[e,hf]at hg;cases hg),aL]
              by_cases e2:a=id0
              ·subst e2;rw[(bQ bh).1]at hg;simp only[ojE]at hg;subst hg;rw[if_pos rfl];exact .inr ⟨cs,m,false,rfl,hc6.1.1.1.1,rfl⟩
              ·rw[if_neg e2];exact .inl hg
           ·cases h1
          ·cases h1
        ·rename_i b0 o0 s0 l0 k0;cases hc4:Nat.beq s0 1&&Nat.ble (n*info.bytes) 1073741824 with
         |false=>rw[hc4,cdf]at h1;cases h1
         |true=>rw[hc4,cdt]at h1;simp only[ojE,pjE]at h1;obtain⟨_,rfl⟩:=h1;exact .put hf
        ·cases h1
     ·cases h1
    ·cases h1
  ·cases h1
 ·cases h1
def Inv.qt{p p':PSt}{Pl:List gV}{Rl:List iW}(γ:Inv P base J p H Pl Rl)(a:Adv J I p H J' I' p' H')(q:Qt H H')(hx: ∀q∈Pl,gZ q.o=true->q.stale=false->∀a ob,H.get a=some ob->H'.get a=some ob):Inv P base J' p' H' Pl Rl:=by
 intro r hr;rcases γ r hr with hs|⟨k,hk,T⟩
 ·exact .inl (hs.adv a)
 ·refine .inr ⟨k,hk,T.adv_cl a,T.i,λbw=>aAI q T.rd (λob dw b hb=>?_) (T.ok bw),T.box,T.rd,λt x ho=>?_⟩
  ·cases hm:gZ k.o with
   |true=>exact hx k hk hm bw b ob hb
   |false=>
    obtain⟨cs,rfl⟩:=T.box hm ob dw;rcases q.get b _ hb with e|⟨cx,m',b',e1,e2,_⟩
    ·exact e
    ·simp only[AObj.cells.injEq]at e1;obtain⟨rfl,rfl⟩:=e1;cases e2
  ·obtain⟨h1,h2,h3,h4⟩:=T.ld t x ho;exact⟨h1,h2,h3.keep a.keep a.mon,h4.keep a.keep a.mon⟩
def Inv.filter{p:PSt}{Pl:List gV}{Rl:List iW}(γ:Inv P base J p H Pl Rl)(f:Nat->Bool):Inv P base J p H (Pl.filter λq=>f q.i) (Rl.filter λr=>f r.i):=by
 intro r hr;rw[List.mem_filter]at hr;rcases γ r hr.1 with hs|⟨k,hk,T⟩
 ·exact .inl hs
 ·exact .inr ⟨k,List.mem_filter.2 ⟨hk,by rw[T.i];exact hr.2⟩,T⟩
def Inv.stale{p p':PSt}{Pl:List gV}{Rl:List iW}(γ:Inv P base J p H Pl Rl)(a:Adv J I p H J' I' p' H'):Inv P base J' p' H' (Pl.map λq=>{q with stale:=true}) Rl:=by
 intro r hr;rcases γ r hr with hs|⟨k,hk,T⟩
 ·exact .inl (hs.adv a)
 ·refine .inr ⟨_,List.mem_map.2 ⟨k,hk,rfl⟩,T.adv_cl a,T.i,λh=>(by cases h),T.box,T.rd,λt x ho=>?_⟩
  obtain⟨h1,h2,h3,h4⟩:=T.ld t x ho;exact⟨h1,h2,h3.keep a.keep a.mon,h4.keep a.keep a.mon⟩
def Inv.some{p p':PSt}{Pl:List gV}{Rl:List iW}(γ:Inv P base J p H Pl Rl)(a:Adv J I p H J' I' p' H')(q:Qt H H'):Inv P base J' p' H' (Pl.map λq=>bif !gZ q.o then q else{q with stale:=true}) Rl:=by
 intro r hr;rcases γ r hr with hs|⟨k,hk,T⟩
 ·exact .inl (hs.adv a)
 ·cases hm:gZ k.o with
  |true=>
   refine .inr ⟨{k with stale:=true},List.mem_map.2 ⟨k,hk,by simp[hm]⟩,T.adv_cl a,T.i,λh=>(by cases h),T.box,T.rd,λt x ho=>?_⟩
   obtain⟨h1,h2,h3,h4⟩:=T.ld t x ho;exact⟨h1,h2,h3.keep a.keep a.mon,h4.keep a.keep a.mon⟩
  |false=>
   refine .inr ⟨k,List.mem_map.2 ⟨k,hk,by simp[hm]⟩,T.adv_cl a,T.i,λbw=>aAI q T.rd (λob dw b hb=>?_) (T.ok bw),T.box,T.rd,λt x ho=>?_⟩
   ·obtain⟨cs,rfl⟩:=T.box hm ob dw;rcases q.get b _ hb with e|⟨cx,m',b',e1,e2,_⟩
    ·exact e
    ·simp only[AObj.cells.injEq]at e1;obtain⟨rfl,rfl⟩:=e1;cases e2
   ·obtain⟨h1,h2,h3,h4⟩:=T.ld t x ho;exact⟨h1,h2,h3.keep a.keep a.mon,h4.keep a.keep a.mon⟩
def R.vid{p:PSt}(M:Mem J I p H){v:PV}{u:Value}{id:Nat}(r:R J H v u)(hv:PI.vid v=Option.some id)(hg: ∃o,p.get id=Option.some o/\o≠ .gone):
    ∃a,J id=Option.some (Option.some a)/\((∃off,u= .pointer (Option.some ⟨a,off,none⟩))∨∃off n c,u= .slice (Option.some ⟨a,off,none⟩) n c):=by
 obtain⟨o,ho,bu⟩:=hg;have hν: ∃a,J id=Option.some (Option.some a):=by
  have:=M.get id o ho;cases o with
  |box cs=>obtain⟨a,us,h1,_⟩:=this;exact⟨a,h1⟩
  |row z ag cs=>obtain⟨a,us,h1,_⟩:=this;exact⟨a,h1⟩
  |map es=>exact this.elim
  |gone=>exact absurd rfl bu
 obtain⟨a,ha⟩:=hν;refine⟨a,ha,?_⟩;cases v<;>simp only[PI.vid,ojE]at hv<;>try cases hv
 ·cases r with
  |ptr _ fe a' h=>rw[ha]at h;simp only[ojE]at h;subst h;exact .inl ⟨_,rfl⟩
  |ptr0 _ off a' h=>rw[ha]at h;cases h
 ·cases r with
  |rs _ fe len' c a' h=>rw[ha]at h;simp only[ojE]at h;subst h;exact .inr ⟨_,_,_,rfl⟩
  |rs0 _ off len c a' h=>rw[ha]at h;cases h
def hJ{N:Type}{c:Bool}{A:Option N}{x:N}(h:(bif c then A else none)=Option.some x):A=Option.some x:=by cases c with
 |false=>cases h
 |true=>exact h
def bif_or{N:Type}{c:Bool}{A B x:N}(h:(bif c then A else B)=x):A=x∨B=x:=by cases c with
 |false=>exact .inr h
 |true=>exact .inl h
def aCq{Z:Operand->Value}{o:Oper}{id a:Nat}{u:Value}{ob:AObj}(h:eO P Z o id=Option.some (u,ob))(hu:(∃off,u= .pointer (Option.some ⟨a,off,none⟩))∨∃off n c,u= .slice (Option.some ⟨a,off,none⟩) n c):id=a:=by
 have fin: ∀{off n k:Nat},u= .pointer (Option.some ⟨id,off,none⟩)∨u= .slice (Option.some ⟨id,off,none⟩) n k∨u= .map (Option.some id)->id=a:=by
  rintro off n k (rfl|rfl|rfl)<;>rcases hu with⟨o2,e⟩|⟨o2,n2,c2,e⟩<;>first|(cases e;rfl)|cases e
 obtain⟨dst,op,ty,pos,af,g⟩:=o;cases op<;>simp only[eO]at h<;>try cases h
 ·split at h<;>try cases h
  have h:=hJ h;simp only[ojE,pjE]at h;exact fin (n:=0) (k:=0) (.inl h.1.symm)
 ·have h:=hJ h;simp only[ojE,pjE]at h;exact fin (n:=0) (k:=0) (.inl h.1.symm)
 ·split at h<;>try cases h
  split at h<;>try cases h
  split at h<;>try cases h
  have h:=hJ h;simp only[mjE,pjE]at h;obtain⟨cs,_,h2,_⟩:=h;exact fin (.inr (.inl h2.symm))
 ·split at h<;>try cases h
  split at h<;>try cases h
  split at h<;>try cases h
  have h:=hJ h;rcases bif_or h with h|h
  ·simp only[ojE,pjE]at h;exact fin (.inr (.inl h.1.symm))
  ·simp only[ojE,pjE]at h;exact fin (.inr (.inl h.1.symm))
def Inv.cons{p:PSt}{Pl:List gV}{Rl:List iW}(γ:Inv P base J p H Pl Rl){r:iW}(h:Stab P base J H r):Inv P base J p H Pl (r::Rl):=by
 intro x hx;rcases List.mem_cons.1 hx with rfl|hx
 ·exact .inl h
 ·exact γ x hx
def Inv.cons2{p:PSt}{Pl:List gV}{Rl:List iW}(γ:Inv P base J p H Pl Rl){r:iW}{q:gV}(h:Trk P base J p H q r):Inv P base J p H (q::Pl) (r::Rl):=by
 intro x hx;rcases List.mem_cons.1 hx with rfl|hx
 ·exact .inr ⟨q,mhE ..,h⟩
 ·rcases γ x hx with h|⟨k,hk,T⟩
  ·exact .inl h
  ·exact .inr ⟨k,mtE _ hk,T⟩
end
end Go.PI
namespace Go.PI
open Go.AI
section
variable{P:Program}{J J':Nu}{I I1 I':Ga}{H H':St}{S:PS}{A:Slots}{base:Nat}
def aDo{o:Oper}(h:aW o= .pure)(S:PS):gN o S=false:=by
 obtain⟨dst,op,ty,pos,af,g⟩:=o;cases op<;>first|rfl|(simp[aW]at h)
def aJs{p p1:PSt}{o:Oper}{take own:Bool}{v:PV}{u:Value}{i:Nat}(M:Mem J I p H)(F:FR J I H S A)(ho:o.op.operands.all (aM P)=true)(hp:kJ P p S o take=some (v,own,p1))(hn:gN o S=false)
    (hu:iT P H (ev A) o=some u):Stab P base J H ⟨i,o,A,u,none⟩:=by
 intro J' H' k m z;have ci:iT P H' (ev A) o=some u->check P base H' ⟨i,o,A,u,none⟩=true:=by
  intro h;simp only[check,h];exact gE u
 apply ci
 replace ho:=sR ho
 obtain⟨dst,op,ty,pos,af,g⟩:=o;cases op with
 |load t a=>
  simp only[Op.operands,alC,List.all_nil,bnA]at ho;have ra:=aZ F ho;simp only[iT]at hu⊢;simp only[kJ]at hp;split at hp
  ·rename_i v' hl;simp only[gN]at hn;cases qu:pev S a<;>rw[qu]at hl hn ra<;>simp only[iF]at hl<;>(try cases hl)<;>(try cases hn)
   generalize ev A a=w at ra hu⊢;cases ra with
   |pin zz _ _ _ id b rcs mm hs hr hb hh=>
    obtain⟨bb,hf⟩:=hr.keep k m;simp only[kV,hr.1]at hu;simp only[kV,hf.1];exact hu
  ·cases hp
 |slice t x lo hi mx=>
  simp only[iT]at hu⊢;simp only[Op.operands,Array.toList_append,List.all_append,bjE]at ho;have rx:=aZ F (P:=P) (x:=x) (by simpa using ho.1.1.1)
  simp only[kJ,mjE,pjE]at hp;obtain⟨⟨w,fc⟩,hw,_⟩:=hp;refine aIr (λid cs mm hr=>?_) (λid off n c hxx=>?_) hu
  ·obtain⟨h1,h2⟩:=bQ hr;obtain⟨cx,b,h3⟩:=z id cs mm h1;exact⟨cx,_,aU h3 (by rw[iQ k.vers];exact h2),rfl⟩
  ·rw[hxx]at rx;generalize pev S x=xv at rx hw;cases rx with
   |emp1 _ _ _ rcs m hr=>exact⟨_,_,hr.1⟩
   |sl _ _ _ _ _ rcs m hz hs hr hm hb hh=>exact⟨_,_,hr.1⟩
   |rs bp _ _ _ a hν=>
    obtain⟨o',fv⟩:=M.live _ _ hν;have:=M.get _ _ fv;cases o' with
    |box cs=>obtain⟨a',us,h1,h2,_⟩:=this;rw[hν]at h1;simp only[ojE]at h1;subst h1;exact⟨_,_,aU h2 rfl⟩
    |row z ag cs=>obtain⟨a',us,h1,h2,_⟩:=this;rw[hν]at h1;simp only[ojE]at h1;subst h1;exact⟨_,_,aU h2 rfl⟩
    |map es=>exact this.elim
    |gone=>rw[show J bp=some none from this]at hν;cases hν
   |v _ hp=>simp[aE]at hp
   |und _=>
    unfold gX at hw;split at hw
    ·simp at hw
    ·split at hw<;>simp at hw
    ·cases hw
   |rs0 bp _ _ _ a hν=>
    unfold gX at hw;split at hw
    ·simp at hw
    ·split at hw
     ·split at hw
      ·split at hw
       ·rename_i hg;obtain⟨a',us,h1,_⟩:=M.get _ _ hg
        simp_all
       ·cases hw
      all_goals simp_all
     ·cases hw
    ·cases hw
 |_=>simp only[kJ]at hp;cases hp
def slice_fz{v:PV}{id off n c:Nat}(r:R J H v (.slice (some ⟨id,off,none⟩) n c))(hv:v= .emp∨∃z es,v= .sl z es): ∀k,J k≠some (some id):=by
 rcases hv with rfl|⟨z,es,rfl⟩
 ·cases r with|emp1 _ _ _ rcs m hr=>exact hr.2
 ·cases r with|sl _ _ _ _ _ rcs m hz hs hr hm hb hh=>exact hr.2
def mkSl_or(z:Nat)(es:List PV):dN z es= .emp∨∃z' es',dN z es= .sl z' es':=by
 cases es with
 |nil=>exact .inl rfl
 |cons e es=>exact .inr ⟨z,_,rfl⟩
def runDP_ok{pc:fB}{ac:FuncId->Array Value->St->Option (Value×St)}(bj:gT pc ac){ops:Array Oper}{ms:List Nat}(dg: ∀o∈ops.toList,o.op.operands.all (aM P)=true):
    ∀(sc:List aHx) (Pl:List gV) (Rl:List iW) (J:Nu) (I:Ga) (S:PS) (p:PSt) (A:Slots) (H:St) (S':PS) (p':PSt),(eQ sc).Nodup->(∀j∈eQ sc,j<ops.size/\H.get (base+j)=none)->base+ops.size<=H.next->
      Inv P base J p H Pl Rl->Mem J I p H->FR J I H S A->iL P pc ops ms sc Pl S p=some (S',p')->
      ∃A' H' J' I',bG P ac ops ms base (eQ sc) Rl A H=some (A',H')/\Mem J' I' p' H'/\FR J' I' H' S' A'/\Adv J I p H J' I' p' H'/\(∀j,j<base->H.get j=none->H'.get j=none):=by
 intro sc;induction sc with
 |nil=>
  intro Pl Rl J I S p A H S' p' _ _ hb γ M F h;simp only[iL]at h;cases hc:Pl.all (lT P p)with
  |false=>rw[hc,cdf]at h;cases h
  |true=>
   rw[hc,cdt]at h;simp only[ojE,pjE]at h;obtain⟨rfl,rfl⟩:=h;refine⟨A,H,J,I,?_,M,F,.refl J I p H,λj _ hj=>hj⟩
   simp only[eQ,bG,γ.check M hc,cdt]
 |cons s sc ih=>
  intro Pl Rl J I S p A H S' p' gb cj hb γ M F h;cases s with
  |freeze t=>
   simp only[iL]at h;split at h
   ·rename_i S1 p1 h1;obtain⟨J1,M1,F1,A1⟩:=pJ M F h1;obtain⟨A',H',J',I',k1,k2,k3,k4,k5⟩:=ih Pl Rl J1 I S1 p1 A H S' p' gb cj hb (γ.qt A1 (.refl H) λ_ _ _ _ _ _ h=>h) M1 F1 h
    exact⟨A',H',J',I',k1,k2,k3,A1.trans k4,k5⟩
   ·cases h
  |app a i s=>
   simp only[eQ]at gb cj⊢;obtain⟨ha,hfa⟩:=cj a (by simp)
   obtain⟨hi,hfi⟩:=cj i (by simp)
   obtain⟨hs,hfs⟩:=cj s (by simp)
   simp only[List.nodup_cons,List.mem_cons,not_or]at gb;simp only[iL]at h;have hopA:ops[a]?=some ops[a]:=Array.getElem?_eq_getElem ha;have hopI:ops[i]?=some ops[i]:=Array.getElem?_eq_getElem hi;have hopS:ops[s]?=some ops[s]:=Array.getElem?_eq_getElem hs;rw[hopA,hopI,hopS]at h;simp only at h;split at h
   ·rename_i S1 h1;cases hc0:Pl.all (lT P p)&&(Pl.filter λr=> !bit (ms.getD a 0) r.i).all (λr=> !gZ r.o)with
    |false=>rw[hc0,cdf]at h;cases h
    |true=>
     rw[hc0,cdt]at h;simp only[bjE]at hc0;obtain⟨hc,lk⟩:=hc0;rw[List.all_eq_true]at lk;obtain⟨u1,u2,H1,H2,I2,q1,q2,q3,q4,q5,q6,q7,q8,q9,q10,q11,M2,F2,A2,qt1,qt2,q12,q13⟩:=aFT (ac:=ac) (base:=base) (iA:=a) (iI:=i) (iS:=s) M F hfa (by omega) (dg _ (by simp)) (dg _ (by simp)) (dg _ (by simp)) h1
     have hw: ∀{o:Oper} {A0:Slots},o.guard=none->wanted ops A0 o=true:=λhg=>by simp only[wanted,hg]
     have ki: ∀j∈eQ sc,j<ops.size/\H2.get (base+j)=none:=λj hj=>by
      obtain⟨h2,h3⟩:=cj j (by simp[hj])
      exact⟨h2,(q13 _ (λe=>gb.1.2.2 (by rw[show a=j by omega];exact hj)) h3).2⟩
     have If:=γ.filter λk=> !bit (ms.getD a 0) k
     have my:(Rl.filter λr=> !bit (ms.getD a 0) r.i).all (check P base H1)=true:=by
      rw[List.all_eq_true];intro r hr;have hr0:=List.mem_filter.1 hr;have ch:=γ.check M hc;rw[List.all_eq_true]at ch;have hcr:=ch r hr0.1;rcases If r hr with bw|⟨q,hq,T⟩
      ·have hk3:Keep J g00 H H1:=by
        refine⟨qt1.vers,by rw[q12];exact nlR _,λx hx=>?_,λx hn cs m hg=>?_⟩
        ·cases hxx:H.get x with
         |none=>rfl
         |some ob=>
          rcases qt1.get x ob hxx with e|⟨_,_,_,_,_,e⟩<;>rw[hx]at e<;>cases e
        ·rcases qt1.get x _ hg with e|⟨cx,m',b',e1,e2,e3⟩
         ·exact⟨m.tip,e,λh=>h,λ_=>rfl⟩
         ·simp only[AObj.cells.injEq]at e1;obtain⟨rfl,rfl⟩:=e1;exact⟨b',e3,λh=>(by rw[e2]at h;cases h),λh=>(by cases h)⟩
       exact bw J H1 hk3 (.refl H J) λx cs m hx=>by
        rcases qt1.get x _ hx with e|⟨cx,m',b',e1,e2,e3⟩
        ·exact⟨cs,m.tip,e⟩
        ·simp only[AObj.cells.injEq]at e1;obtain⟨rfl,rfl⟩:=e1;exact⟨_,b',e3⟩
      ·refine aAI qt1 T.rd (λob dw b hb=>?_) hcr
       have hm:gZ q.o=false:=by simpa using lk q hq
       obtain⟨cs,rfl⟩:=T.box hm ob dw;rcases qt1.get b _ hb with e|⟨cx,m',b',e1,e2,_⟩
       ·exact e
       ·simp only[AObj.cells.injEq]at e1;obtain⟨rfl,rfl⟩:=e1;cases e2
     have γ2:=(If.some A2 qt2).filter λk=> !bit (ms.getD s 0) k
     obtain⟨A',H',J',I',j1,j2,j3,j4,j5⟩:=ih _ _ J I2 _ p _ H2 S' p' gb.2.2.2 ki (Nat.le_trans hb A2.keep.next) γ2 M2 F2 h
     refine⟨A',H',J',I',?_,j2,j3,A2.trans j4,λj hj hn=>j5 j hj (q13 j (by omega) hn).2⟩
     simp only[bG,hopA,hopI,hopS,hw q7,hw q8,hw q9,cdt,q4,q5,q6,γ.check M hc,q1,q2,my,q3];rw[q10];exact j1
   ·cases h
  |op i take=>
   simp only[eQ]at gb cj⊢;rw[List.nodup_cons]at gb;obtain⟨hi,hfi⟩:=cj i (mhE ..);simp only[iL]at h;have ly:ops[i]?=some ops[i]:=Array.getElem?_eq_getElem hi;rw[ly]at h;simp only at h;simp only[bG,ly];have qb:=dg ops[i] (by simp)
   generalize ops[i]=o at*;split at h
   ·rename_i hw;rw[lE F hw,cdt];split at h
    ·rename_i v own S1 p1 h1;obtain⟨u,H1,J1,I1,k1,k2,k3,k4,k5,k6⟩:=aJr bj M F hfi (by omega) qb h1
     have ki: ∀j∈eQ sc,j<ops.size/\H1.get (base+j)=none:=λj hj=>by
      obtain⟨h2,h3⟩:=cj j (mtE _ hj);exact⟨h2,k6 _ (by omega) (λe=>gb.1 (by rw[show i=j by omega];exact hj)) h3⟩
     have bv:=Nat.le_trans hb k5.keep.next
     have fin: ∀{Pl' Rl'},Inv P base J1 p1 H1 Pl' Rl'->iL P pc ops ms sc Pl' (S1.put o.dst v own) p1=some (S',p')->
              ∃A' H' J' I',bG P ac ops ms base (eQ sc) Rl' (A.store o.dst u) H1=some (A',H')/\Mem J' I' p' H'/\FR J' I' H' S' A'/\Adv J I p H J' I' p' H'/\(∀j,j<base->H.get j=none->H'.get j=none):=by
      intro Pl' Rl' γ' h';obtain⟨A',H',J',I',j1,j2,j3,j4,j5⟩:=ih Pl' Rl' J1 I1 _ p1 _ H1 S' p' gb.2 ki bv γ' k3 k4 h';exact⟨A',H',J',I',j1,j2,j3,k5.trans j4,λj hj hn=>j5 j hj (k6 j (by omega) (by omega) hn)⟩
     cases hk:aW o with
     |pure=>
      simp only[aop,hk,mjE,pjE]at k1;obtain⟨u',jt,rfl,rfl⟩:=k1;have hu:jN P (ev A) o=some u':=by
       simp only[pop,hk,mjE,pjE]at h1;obtain⟨⟨v',fc,S''⟩,hp,rfl,rfl,rfl,rfl⟩:=h1;unfold aBn at hp;split at hp
       ·rename_i r hpp;obtain⟨r1,r2,r3⟩:=r;obtain⟨u2,_,h2,_⟩:=aFL F qb hpp;unfold qZ at jt;rw[h2]at jt⊢;exact jt
       ·cases hp
      simp only[hu];rw[show iP o=false by simp[iP,hk]]at h
      simp only[cdf,aDo hk S]at h;exact fin (γ.qt k5 (.refl H) λ_ _ _ _ _ _ h=>h) h
     |read=>
      simp only[aop,hk,mjE,pjE]at k1;obtain⟨u',hu,rfl,rfl⟩:=k1;simp only[hu];rw[show iP o=false by simp[iP,hk]]at h
      simp only[cdf]at h;have γ':=γ.qt k5 (.refl H) λ_ _ _ _ _ _ h=>h
      have hpr: ∃fc p'',kJ P p S o take=some (v,fc,p''):=by
       simp only[pop,hk,mjE,pjE]at h1;obtain⟨⟨v',fc,p''⟩,hp,rfl,rfl,rfl,rfl⟩:=h1;exact⟨_,_,hp⟩
      obtain⟨fc,p'',hpr⟩:=hpr;cases pf:gN o S with
      |false=>
       rw[pf,cdf]at h;exact fin (γ'.cons ((aJs M F qb hpr pf hu).adv k5)) h
      |true=>
       rw[pf,cdt]at h;have my:check P base H ⟨i,o,A,u',none⟩=true:=by simp only[check,hu];exact gE u'
       refine fin (γ'.cons2 ⟨λid hid hd=>?_,rfl,λ_=>my,λ_ ob dw=>(by cases dw),λ_=>?_,λt a ku=>?_⟩) h
       ·simp only[gN]at pf;split at pf
        ·rename_i t a ku;simp only[cid,kW,ku]at hid;have bz:aM P a=true:=by
          have:=sR qb;rw[ku]at this;simpa [Op.operands]using this
         have dd: ∃v2,iF P p t (pev S a)=some v2:=by
          simp only[kJ,ku]at hpr;split at hpr
          ·exact⟨_,by assumption⟩
          ·cases hpr
         obtain⟨v2,dd⟩:=dd;have hvd:PI.vid (pev S a)=some id:=by
          cases hh:pev S a<;>rw[hh]at hid<;>simp only[aid]at hid<;>first|exact hid|cases hid
         obtain⟨b,hb1,hb2⟩:=R.vid M (aZ F bz) hvd (by
          cases hh:pev S a<;>rw[hh]at hid dd<;>simp only[aid]at hid<;>try cases hid
          simp only[iF]at dd;split at dd
          ·exact⟨_,by assumption,by simp⟩
          ·exact⟨_,by assumption,by simp⟩
          ·cases dd)
         have hb3:=(k5.bx id b hb1 hd).2;refine⟨b,hb3,.inl ⟨rfl,t,a,?_⟩,my⟩;rcases hb2 with⟨off,e⟩|⟨off,n,c,e⟩
         ·exact⟨off,ku,e⟩
         ·exfalso;have hr:=aZ F bz;rw[e]at hr;cases hh:pev S a<;>rw[hh]at hid hr<;>simp only[aid]at hid<;>try cases hid
          cases hr
        ·rename_i e;simp[aW,e]at hk
        ·rename_i e;simp[aW,e]at hk
        ·rename_i e;simp[aW,e]at hk
        ·cases pf
       ·simp only[gN]at pf;split at pf
        ·rename_i t a e;exact⟨t,a,e⟩
        ·rename_i e;simp[aW,e]at hk
        ·rename_i e;simp[aW,e]at hk
        ·rename_i e;simp[aW,e]at hk
        ·cases pf
       refine⟨rfl,rfl,?_,k2⟩;simp only at ku;simp only[kW,ku];have:aM P a=true:=by
        have:=sR qb;rw[ku]at this;simpa [Op.operands]using this
       exact(aZ F this).keep k5.keep k5.mon
     |alloc=>
      simp only[aop,hk,mjE,pjE]at k1;obtain⟨⟨u',ob⟩,hu,rfl,rfl⟩:=k1;simp only[hu];rw[show iP o=false by simp[iP,hk]]at h
      simp only[cdf]at h;have γ':=γ.qt k5 (.put hfi) λ_ _ _ _ a ob h=>by rw[aL,if_neg (λe=>by rw[e,hfi]at h;cases h)];exact h
      have my:check P base (H.put (base+i) ob) ⟨i,o,A,u',some ob⟩=true:=by
       simp only[check,aL,if_true];exact qO ob
      simp only[pop,hk,mjE,pjE]at h1;obtain⟨⟨v',fc,p''⟩,hp,dr,rfl,rfl,rfl⟩:=h1;simp only at dr;subst dr;have dt:(∃o2,p''.get p.next=some o2/\o2≠ .gone)->∀id,PI.vid v'=some id->(PI.vid v'=some id->id=p.next)->∃a,J1 id=some (some a)/\Looks base ⟨i,o,A,u',some ob⟩ a/\check P base (H.put (base+i) ob) ⟨i,o,A,u',some ob⟩=true:=by
       intro hg id hid hid2;have:=hid2 hid;subst this;obtain⟨b,hb1,hb2⟩:=R.vid k3 k2 hid hg;exact⟨b,hb1,.inr ⟨by simp,aCq hu hb2⟩,my⟩
      obtain⟨dst,op,ty,pos,af,g⟩:=o;cases op with
      |alloc t=>
       have sg: ∀id,PI.vid v'=some id->id∉p''.wr->_:=λid hid _=>dt (by
        simp only[dB]at hp;split at hp<;>try cases hp
        exact⟨_,by rw[gP,if_pos rfl],by simp⟩) id hid (λ_=>by
        simp only[dB]at hp;split at hp<;>try cases hp
        simp only[PI.vid,ojE]at hid;exact hid.symm)
       refine fin (γ'.cons2 (q:=⟨i,⟨dst,.alloc t,ty,pos,af,g⟩,kW ⟨dst,.alloc t,ty,pos,af,g⟩ S,v',false⟩) ⟨sg,rfl,λ_=>my,λ_ ob' dw=>?_,λh=>(by cases h),λt a ku=>by cases ku⟩) h
       simp only[ojE]at dw;subst dw;simp only[eO]at hu;split at hu
       ·rename_i zz _;cases hc:zz.cells.toList.all aE with
        |false=>rw[hc,cdf]at hu;cases hu
        |true=>rw[hc,cdt]at hu;simp only[ojE,pjE]at hu;exact⟨_,hu.2.symm⟩
       ·cases hu
      |box t x=>
       have sg: ∀id,PI.vid v'=some id->id∉p''.wr->_:=λid hid _=>dt (by
        simp only[dB]at hp;have hp:=hJ hp;simp only[ojE,pjE]at hp;obtain⟨_,_,rfl⟩:=hp;exact⟨_,by rw[gP,if_pos rfl],by simp⟩) id hid (λ_=>by
        simp only[dB]at hp;have hp:=hJ hp;simp only[ojE,pjE]at hp;obtain⟨rfl,_,_⟩:=hp;simp only[PI.vid,ojE]at hid;exact hid.symm)
       refine fin (γ'.cons2 (q:=⟨i,⟨dst,.box t x,ty,pos,af,g⟩,kW ⟨dst,.box t x,ty,pos,af,g⟩ S,v',false⟩) ⟨sg,rfl,λ_=>my,λ_ ob' dw=>?_,λh=>(by cases h),λt a ku=>by cases ku⟩) h
       simp only[ojE]at dw;subst dw;simp only[eO]at hu;cases hc:(ev A x).cells.toList.all one with
       |false=>rw[hc,cdf]at hu;cases hu
       |true=>rw[hc,cdt]at hu;simp only[ojE,pjE]at hu;exact⟨_,hu.2.symm⟩
      |makeSlice t l c=>
       have lk: ∀id,PI.vid v'=some id->id=p.next/\∃o2,p''.get p.next=some o2/\o2≠ .gone:=by
        intro id hid;simp only[dB]at hp;split at hp<;>try cases hp
        split at hp<;>try cases hp
        split at hp<;>try cases hp
        have hp:=hJ hp;rcases bif_or hp with hp|hp
        ·simp only[ojE,pjE]at hp;obtain⟨rfl,_,_⟩:=hp;simp only[PI.vid]at hid;cases hid
        ·have hp:=hJ hp;simp only[ojE,pjE]at hp;obtain⟨rfl,_,rfl⟩:=hp;simp only[PI.vid,ojE]at hid;exact⟨hid.symm,_,by rw[gP,if_pos rfl],by simp⟩
       exact fin (γ'.cons2 (q:=⟨i,⟨dst,.makeSlice t l c,ty,pos,af,g⟩,kW ⟨dst,.makeSlice t l c,ty,pos,af,g⟩ S,v',false⟩) ⟨λid hid _=>dt (lk id hid).2 id hid (λ_=>(lk id hid).1),rfl,λ_=>my,λhm=>(by cases hm),λh=>(by cases h),λt a ku=>by cases ku⟩) h
      |buildSlice t len parts=>
       refine fin (γ'.cons ?_) h;have dw: ∃cs s,ob= .cells cs (bO s)/\u'= .slice (some ⟨base+i,0,none⟩) len len:=by
        simp only[eO]at hu;split at hu
        ·split at hu
         ·rename_i s _;split at hu
          ·rename_i z _;cases hc:z.cells.toList.all aE&&Nat.ble (len*s) 1000000&&Nat.beq z.cells.size s&&Nat.ble 1 s with
           |false=>rw[hc,cdf]at hu;cases hu
           |true=>
            rw[hc,cdt]at hu;simp only[mjE,pjE]at hu;obtain⟨cs,_,h2,h3⟩:=hu;exact⟨_,s,h3.symm,h2.symm⟩
          ·cases hu
         ·cases hu
        ·cases hu
       obtain⟨cs,s,rfl,rfl⟩:=dw;have js:v'= .emp∨∃z es,v'= .sl z es:=by
        simp only[dB]at hp;split at hp
        ·split at hp
         ·rename_i s a z _ _ _;cases hc:Nat.ble (len*s) 1000000&&Nat.beq z.length s&&Nat.ble 1 s&&(a||Nat.beq s 1)with
          |false=>rw[hc,cdf]at hp;cases hp
          |true=>
           rw[hc,cdt]at hp;split at hp
           ·simp only[ojE,pjE]at hp;rw[<-hp.1];exact mkSl_or _ _
           ·cases hp
         ·cases hp
        ·cases hp
       have de:=slice_fz k2 js;intro J'' H'' kk mm zz;obtain⟨b,hb1,hb2,_⟩:=kk.row (base+i) de cs (bO s) (by rw[aL,if_pos rfl])
       have hbf:=hb2 rfl;subst hbf;simp only[check,hb1];exact qO _
      |_=>simp only[dB]at hp;cases hp
     |eff=>
      have k1':aA6 P ac H (ev A) o (base+i)=some (u,H1):=by simpa only[aop,hk]using k1
      rw[show iP o=true by simp[iP,hk]]at h
      simp only[cdt]at h;cases hc:Pl.all (lT P p)with
      |false=>rw[hc,cdf]at h;cases h
      |true=>
       rw[hc,cdt]at h;simp only[γ.check M hc,cdt,k1'];have If:=γ.filter λk=> !bit (ms.getD i 0) k
       cases ha:jI o with
       |false=>
        rw[ha]at h;simp only[Bool.false_and,cdf]at h;exact fin (If.stale k5) h
       |true=>
        rw[ha]at h;simp only[Bool.true_and]at h;have hqt:Qt H H1:=by
         obtain⟨dst,op,ty,pos,af,g⟩:=o;cases op<;>simp only[jI]at ha<;>(try cases ha)
         rename_i c;obtain⟨callee,cargs,ats⟩:=c;cases callee with
         |builtin b=>
          cases b<;>(try cases ha)
          simp only[aA6]at k1';split at k1'
          ·exact aIx hfi k1'
          ·cases k1'
         |_=>cases ha
        exact fin (If.some k5 hqt) h
    ·cases h
   ·rename_i hw;rw[lE F hw,cdf];obtain⟨I1,M1,F1,A1⟩:=aJx M F o.dst;obtain⟨A',H',J',I',j1,j2,j3,j4,j5⟩:=ih Pl Rl J I1 _ p _ H S' p' gb.2 (λj hj=>cj j (mtE _ hj)) hb γ M1 F1 h
    exact⟨A',H',J',I',j1,j2,j3,A1.trans j4,j5⟩
   ·cases h
end
end Go.PI
namespace Go.PI
open Go.AI
def cL{n:Nat}{xs:List PV}:fT n xs=true↔∀x∈xs,below n x=true:=by
 induction xs with
 |nil=>simp[fT]
 |cons x xs ih=>simp[fT,ih]
def aBm{n:Nat}{x:PV}(h:x.pur=true):below n x=true:=by cases x<;>first|rfl|simp[PV.pur]at h
def aGl{es:List PV}(h: ∀e∈es,e.cells.all PV.pur=true){i:Nat}{x:PV}(hx:(fL es)[i]?=some x):x.pur=true:=by
 have:=eA hx;simp only[fL,List.mem_flatMap]at this;obtain⟨e,he,hx⟩:=this;exact(List.all_eq_true.1 (h e he)) x hx
section
variable{P:Program}{J J' J'':Nu}{I I1 I':Ga}{H H':St}{S:PS}{A:Slots}
def oJ{N:Type}{us:List N}{xs:List PV}(hl:xs.length=us.length){x:PV}(hx:x∈xs): ∃(i:Nat) (u:N),xs[i]?=some x/\us[i]?=some u:=by
 obtain⟨i,hi,rfl⟩:=List.mem_iff_getElem.1 hx;exact⟨i,us[i],geG hi,geG (by omega)⟩
def R.restrict{n:Nat}(hν: ∀k,k<n->J'' k=J' k)(cw: ∀k a,J'' k=some (some a)->J' k=some (some a)){x:PV}{u:Value}(r:R J' H x u):PI.below n x=true->R J'' H x u:=by
 have mc: ∀{id cs m},Fz J' H id cs m->Fz J'' H id cs m:=λh=>⟨h.1,λk hk=>h.2 k (cw k _ hk)⟩
 induction r with
 |und u=>intro _;exact .und u
 |v x h=>intro _;exact .v x h
 |str s=>intro _;exact .str s
 |agg xs us hl _ ih=>
  intro hb;simp only[PI.below]at hb;rw[cL]at hb;exact .agg xs us hl λi x u hx hu=>ih i x u hx hu (hb x (eA hx))
 |tup xs us hl _ ih=>
  intro hb;simp only[PI.below]at hb;rw[cL]at hb;exact .tup xs us hl λi x u hx hu=>ih i x u hx hu (hb x (eA hx))
 |nil=>intro _;exact .nil
 |emp0=>intro _;exact .emp0
 |emp1 id off c rcs m hr=>intro _;exact .emp1 id off c rcs m (mc hr)
 |emp2 b o s c=>intro _;exact .emp2 b o s c
 |sl z es id off c rcs m hz hs hr kv hb _ ih=>
  intro _;exact .sl z es id off c rcs m hz hs (mc hr) kv hb λi x u hx hu=>ih i x u hx hu (aBm (aGl (λe he=>(hs e he).2) hx))
 |pin z es i off id base rcs m hs hr hb _ ih=>
  intro _;exact .pin z es i off id base rcs m hs (mc hr) hb λi x u hx hu=>ih i x u hx hu (aBm (aGl (λe he=>(hs e he).2) hx))
 |ptr id off a h=>
  intro hb;simp only[PI.below,iN,djE]at hb;exact .ptr id off a (by rw[hν id hb];exact h)
 |ptr0 id off a h=>
  intro hb;simp only[PI.below,iN,djE]at hb;exact .ptr0 id off a (by rw[hν id hb];exact h)
 |rs id off len c a h=>
  intro hb;simp only[PI.below,iN,djE]at hb;exact .rs id off len c a (by rw[hν id hb];exact h)
 |rs0 id off len c a h=>
  intro hb;simp only[PI.below,iN,djE]at hb;exact .rs0 id off len c a (by rw[hν id hb];exact h)
 |fn f xs ys us vs hl _ dj _ ih gk=>
  intro hb;simp only[PI.below,bjE]at hb;rw[cL,cL]at hb;exact .fn f xs ys us vs hl (λi x u hx hu=>ih i x u hx hu (hb.1 x (eA hx))) dj λi x u hx hu=>gk i x u hx hu (hb.2 x (eA hx))
def R.low{n:Nat}(hν: ∀k y,J k=some y->k<n){x:PV}{u:Value}(r:R J H x u):PI.below n x=true:=by
 induction r with
 |agg xs us hl _ ih=>
  simp only[PI.below];rw[cL];intro x hx;obtain⟨i,u,h1,h2⟩:=oJ hl hx;exact ih i x u h1 h2
 |tup xs us hl _ ih=>
  simp only[PI.below];rw[cL];intro x hx;obtain⟨i,u,h1,h2⟩:=oJ hl hx;exact ih i x u h1 h2
 |ptr id off a h=>simp only[PI.below,iN,djE];exact hν _ _ h
 |ptr0 id off a h=>simp only[PI.below,iN,djE];exact hν _ _ h
 |rs id off len c a h=>simp only[PI.below,iN,djE];exact hν _ _ h
 |rs0 id off len c a h=>simp only[PI.below,iN,djE];exact hν _ _ h
 |fn f xs ys us vs hl _ dj _ ih gk=>
  simp only[PI.below,bjE];rw[cL,cL];refine⟨λx hx=>?_,λx hx=>?_⟩
  ·obtain⟨i,u,h1,h2⟩:=oJ hl hx;exact ih i x u h1 h2
  ·obtain⟨i,u,h1,h2⟩:=oJ dj hx;exact gk i x u h1 h2
 |_=>rfl
def Ow.restrict{k:K}(cw: ∀k a,J'' k=some (some a)->J' k=some (some a)){x:PV}{u:Value}(o:Ow J' I H k x u):Ow J'' I H k x u:=by
 have mc: ∀{id cs m},Fz J' H id cs m->Fz J'' H id cs m:=λh=>⟨h.1,λk hk=>h.2 k (cw k _ hk)⟩
 induction o with
 |nil x=>exact .nil x
 |exact x id off len rcs m hr=>exact .exact x id off len rcs m (mc hr)
 |zer x b o=>exact .zer x b o
 |tup x xs u us hx _ ih=>exact .tup x xs u us hx ih
 |tip z es id off c rcs m hr ht hw hg hb hk=>exact .tip z es id off c rcs m (mc hr) ht hw hg hb hk
def ObjR.restrict{n id:Nat}(hν: ∀k,k<n->J'' k=J' k)(cw: ∀k a,J'' k=some (some a)->J' k=some (some a))(hid:id<n){o:mW}(h:ObjR J' I H id o)(hb:oN n o=true):ObjR J'' I H id o:=by
 cases o with
 |box cs=>
  obtain⟨a,us,h1,h2,h3,h4⟩:=h;simp only[oN,List.all_eq_true]at hb;refine⟨a,us,by rw[hν id hid];exact h1,h2,h3,λi x b u hx hu=>?_⟩
  obtain⟨h5,h6,h7⟩:=h4 i x b u hx hu;exact⟨h5.restrict hν cw (hb _ (eA hx)),h6,λbv=>(h7 bv).restrict cw⟩
 |row z ag cs=>
  obtain⟨a,us,h1,h2,h3,h5,h4⟩:=h;simp only[oN]at hb;rw[cL]at hb;exact⟨a,us,by rw[hν id hid];exact h1,h2,h3,h5,λi x u hx hu=>(h4 i x u hx hu).restrict hν cw (hb x (eA hx))⟩
 |map es=>exact h
 |gone=>show J'' id=some none;rw[hν id hid];exact h
def ObjR.low{n id:Nat}(hν: ∀k y,J k=some y->k<n){o:mW}(h:ObjR J I H id o):oN n o=true:=by
 cases o with
 |box cs=>
  obtain⟨a,us,h1,h2,h3,h4⟩:=h;simp only[oN,List.all_eq_true];intro c hc;obtain⟨i,hi,rfl⟩:=List.mem_iff_getElem.1 hc;have hx:cs[i]?=some (cs[i].1,cs[i].2):=geG hi;have hu:us[i]?=some (us[i]'(by omega)):=geG _
  exact(h4 i _ _ _ hx hu).1.low hν
 |row z ag cs=>
  obtain⟨a,us,h1,h2,h3,h5,h4⟩:=h;simp only[oN];rw[cL];intro x hx;obtain⟨i,u,e1,e2⟩:=oJ h3.symm hx;exact(h4 i x u e1 e2).low hν
 |map es=>exact h.elim
 |gone=>rfl
def cJ{old d:List Nat}{k:Nat}:k∈old.foldr ins d↔k∈old∨k∈d:=by
 induction old with
 |nil=>simp
 |cons x old ih=>simp only[List.foldr_cons,iG,ih,List.mem_cons,or_assoc]
def tE{mem q:Tr mW}{old:List Nat}(hf: ∀id∈old,q.get id≠none)(k:Nat):(old.foldr (back q) mem).get k=if k∈old then q.get k else mem.get k:=by
 induction old with
 |nil=>simp
 |cons x old ih=>
  simp only[List.foldr_cons];have ih:=ih λid hid=>hf id (mtE _ hid)
  cases hx:q.get x with
  |none=>exact absurd hx (hf x (mhE ..))
  |some o=>
   simp only[back,hx,Tr.get_set];by_cases e:k=x
   ·subst e;simp[hx]
   ·rw[if_neg e,ih];by_cases e2:k∈old
    ·rw[if_pos e2,if_pos (mtE _ e2)]
    ·rw[if_neg e2,if_neg (by simp[e,e2])]
def aJy{p p':PSt}(M:Mem J I p H)(M':Mem J' I' p' H')(adv:Adv J I (st0 p) H J' I' p' H'){v:PV}{u:Value}{own:Bool}(r:R J' H' v u)(ho:own=true->Ow J' I' H' .hand v u):
    ∃J'',R J'' H' v u/\(own=true->Ow J'' I' H' .hand v u)/\Mem J'' I' (settle p v p') H'/\Adv J I p H J'' I' (settle p v p') H':=by
 have hn:p.next<=p'.next:=adv.dp.next
 have kg: ∀k,k<p.next->k∉p'.dirty->p'.mem.get k=p.mem.get k:=adv.dp.mem
 unfold settle;cases hc:below p.next v&&(p'.dirty.filter λid=>Nat.blt id p.next).all (qW p.next p'.mem)with
 |false=>
  simp only[cdf];refine⟨J',r,ho,⟨M'.le,M'.lt,M'.inj,M'.live,M'.get,M'.free,M'.ver⟩,⟨adv.keep,adv.mon,adv.out,⟨hn,λid hid=>cJ.2 (.inr hid),λid hid=>cJ.2 (.inr hid),λk hk hd=>?_⟩,adv.rz,λid a hi hd=>adv.bx id a hi λhh=>hd (cJ.2 (.inl (List.mem_filter.2 ⟨hh,by rw[iN];simpa using M.le _ _ hi⟩)))⟩⟩
  refine kg k hk λhh=>hd (cJ.2 (.inl ?_))
  rw[List.mem_filter];exact⟨hh,by rw[iN];simpa using hk⟩
 |true=>
  simp only[cdt];simp only[bjE,List.all_eq_true]at hc;obtain⟨hv,hold⟩:=hc;have hmo: ∀{k},k∈(p'.dirty.filter λid=>Nat.blt id p.next)↔k∈p'.dirty/\k<p.next:=by
   intro k;rw[List.mem_filter,iN];simp
  generalize hO:(p'.dirty.filter λid=>Nat.blt id p.next)=old at*
  have hf: ∀id∈old,p'.mem.get id≠none:=λid hid h=>by
   have:=hold id hid;simp only[qW,h]at this;cases this
  have bf: ∀k,PSt.get ⟨old.foldr (back p'.mem) p.mem,p.next,old.foldr ins p.dirty,(p'.wr.filter λid=>Nat.blt id p.next).foldr ins p.wr⟩ k=if k<p.next then p'.mem.get k else none:=by
   intro k;simp only[PSt.get,iN,Bool.cond_decide];by_cases hk:k<p.next
   ·simp only[hk,if_true];rw[tE hf];by_cases e:k∈old
    ·rw[if_pos e]
    ·rw[if_neg e];exact(kg k hk λhh=>e (hmo.2 ⟨hh,hk⟩)).symm
   ·simp[hk]
  have du: ∀k,k<p.next->p'.get k=p'.mem.get k:=by
   intro k hk;simp only[PSt.get,iN,Bool.cond_decide];rw[if_pos (by omega)]
  have hνn: ∀k,k<p.next->(λk=>if k<p.next then J' k else none) k=J' k:=λk hk=>by simp[hk]
  have cw: ∀k a,(λk=>if k<p.next then J' k else none) k=some (some a)->J' k=some (some a):=λk a h=>by
   by_cases hk:k<p.next
   ·simpa [hk]using h
   ·simp[hk]at h
  refine⟨λk=>if k<p.next then J' k else none,r.restrict hνn cw hv,λh=>(ho h).restrict cw,⟨λk x hk=>?_,λk a hk=>M'.lt k a (cw k a hk),λi j a hi hj=>M'.inj i j a (cw i a hi) (cw j a hj),λk a hk=>?_,λk o hk=>?_,M'.free,M'.ver⟩,
   ⟨adv.keep,⟨λid x hx=>?_,λid a ha=>adv.mon.2 id a (cw id a ha)⟩,adv.out,⟨nlR _,λid hid=>cJ.2 (.inr hid),λid hid=>cJ.2 (.inr hid),λk hk hd=>?_⟩,adv.rz,λid a hi hd=>by
    have bi:=M.le _ _ hi;obtain⟨e1,e2⟩:=adv.bx id a hi λhh=>hd (cJ.2 (.inl (List.mem_filter.2 ⟨hh,by rw[iN];simpa using bi⟩)))
    exact⟨e1,by show(if id<p.next then J' id else none)=_;rw[if_pos bi];exact e2⟩⟩⟩
  ·by_cases h:k<p.next
   ·exact h
   ·simp[h]at hk
  ·have h1:=cw k a hk;have nj:k<p.next:=by
    by_cases h:k<p.next
    ·exact h
    ·simp[h]at hk
   obtain⟨o,fv⟩:=M'.live k a h1;rw[du k nj]at fv;exact⟨o,by rw[bf,if_pos nj];exact fv⟩
  ·rw[bf]at hk;by_cases nj:k<p.next
   ·rw[if_pos nj]at hk;have hobj:=M'.get k o (by rw[du k nj];exact hk)
    refine hobj.restrict hνn cw nj ?_;by_cases e:k∈old
    ·have:=hold k e;simp only[qW,hk]at this;exact this
    ·have h0:p.mem.get k=some o:=by rw[<-kg k nj λhh=>e (hmo.2 ⟨hh,nj⟩)];exact hk
     have:p.get k=some o:=by
      simp only[PSt.get,iN,Bool.cond_decide];rw[if_pos nj];exact h0
     exact(M.get k o this).low M.le
   ·rw[if_neg nj]at hk;cases hk
  ·have hid:=M.le id x hx;rcases adv.mon.1 id x hx with h1|h1
   ·left;show(if id<p.next then J' id else none)=some x;rw[if_pos hid];exact h1
   ·right;show(if id<p.next then J' id else none)=some none;rw[if_pos hid];exact h1
  ·rw[tE hf];rw[if_neg λe=>hd (cJ.2 (.inl e))]
end
end Go.PI
namespace Go.PI
open Go.AI
def vZ:PC->Prop
 | .region _ ops draw ms sc=>if draw then ms=cF ops.toList []/\eQ sc=oM ops ms else eQ sc=List.range ops.size
 | .seq a b=>vZ a/\vZ b
 | .cond _ a b=>vZ a/\vZ b
 | .block _ c=>vZ c
 | .loop c=>vZ c
 | .scope c=>vZ c
 | .drop _ c=>vZ c
 | .ice _ c=>vZ c
 |_=>True
def wE{ops:Array Oper}{ms:List Nat}: ∀{l done:List Nat},topo ops ms l done=true->l.Nodup/\(∀i∈l,i<ops.size/\i∉done):=by
 intro l;induction l with
 |nil=>intro done _;exact⟨List.nodup_nil,λi hi=>by simp at hi⟩
 |cons i l ih=>
  intro done h;simp only[topo,bjE]at h;obtain⟨⟨⟨⟨h1,h2⟩,h3⟩,h4⟩,h5⟩:=h;obtain⟨h6,h7⟩:=ih h5;have hi:i<ops.size:=by rw[iN]at h1;simpa using h1
  have hd:i∉done:=by simpa using h2
  refine⟨List.nodup_cons.2 ⟨λhh=>(h7 i hh).2 (mhE ..),h6⟩,λj hj=>?_⟩
  rcases List.mem_cons.1 hj with rfl|hj
  ·exact⟨hi,hd⟩
  ·exact⟨(h7 j hj).1,λhh=>(h7 j hj).2 (mtE _ hh)⟩
section
variable{P:Program}{J J' J'':Nu}{I I1 I':Ga}{H H':St}{S:PS}{A:Slots}
def aAj{ops:Array Oper}(h:aAk ops=true):(oM ops (cF ops.toList [])).Nodup/\∀i∈oM ops (cF ops.toList []),i<ops.size/\i∉([]:List Nat):=by
 unfold aAk at h;split at h
 ·simp only[aBt,bjE]at h;exact wE h.1
 ·rename_i tw htw;unfold aKA at h;split at h
  ·cases h
  rename_i x y pe;simp only[bjE]at h;obtain⟨⟨⟨_,hD1⟩,_⟩,_⟩:=h;have sj:oM ops (cF ops.toList [])=((jW ops (cF ops.toList [])).filter λi=>Nat.blt i x)++x::(((jW ops (cF ops.toList [])).filter λi=>Nat.blt x i&& !Nat.beq i y)++ [y]):=by
   unfold oM late;rw[htw,pe]
  rw[sj];simp only[mC,bjE]at hD1;obtain⟨q1,q2⟩:=wE hD1.1;have hp:(((jW ops (cF ops.toList [])).filter λi=>Nat.blt i x)++((jW ops (cF ops.toList [])).filter λi=>Nat.blt x i&& !Nat.beq i y)++ [x,y]).Perm (((jW ops (cF ops.toList [])).filter λi=>Nat.blt i x)++x::(((jW ops (cF ops.toList [])).filter λi=>Nat.blt x i&& !Nat.beq i y)++ [y])):=by
   rw[apA];exact(List.perm_middle).append_left _
  refine⟨hp.nodup_iff.1 q1,λi hi=>?_⟩
  have:=q2 i (hp.mem_iff.2 hi);rw[fU]at this;exact this
def aK6{ops:Array Oper}{o:Option (PS×PSt)}{r:PS×PSt}(h:fitP ops o=some r):o=some r/\aDh ops r.1 r.2=true:=by
 unfold fitP at h;split at h
 ·rename_i r';cases hb:aDh ops r'.1 r'.2 with
  |true=>rw[hb,cdt]at h;cases h;exact⟨rfl,hb⟩
  |false=>rw[hb]at h;cases h
 ·cases h
def okTw_ok{ops:Array Oper}{p:PSt}(M:Mem J I p H)(F:FR J I H S A)(h:aDh ops S p=true):okTw ops A H=true:=by
 unfold aDh at h;unfold okTw;split at h
 ·rename_i e;rw[e]
 ·rename_i s t e;rw[e];simp only;have r1:=(F s).1;have r2:=(F t).1;split at h
  ·rename_i es i off id o2 e1 e2;rw[e1]at r1;rw[e2]at r2;split at h
   ·rename_i cs hg;obtain⟨a,us,n1,n2,_⟩:=M.get _ _ hg;show(match A.at s,A.at t with
     | .pointer (some ⟨i,_,none⟩),.pointer (some ⟨j,_,none⟩)=> !Nat.beq i j&&(match H.get j with|some (.cells _ m)=>m.grp.isNone|_=>false)
     |_,_=>false)=true
    generalize A.at s=u1 at*;generalize A.at t=u2 at*;cases r1 with
    |pin z _ _ _ bp base rcs m hs hr hb h=>
     cases r2 with
     |ptr _ _ a' hν=>
      rw[hν]at n1;simp only[ojE]at n1;subst n1;have:bp≠a':=λe=>hr.2 _ (e▸hν)
      simp only[cG,decide_eq_false this,n2,boxMeta,Option.isNone_none,Bool.not_false,Bool.and_self]
     |ptr0 _ _ a' hν=>rw[hν]at n1;cases n1
   ·cases h
  ·cases h
 ·cases h
def sV(n:Nat):Keep J gQ H {H with next:=H.next+n}:=⟨rfl,Nat.le_add_right _ _,λ_ h=>h,λa _ cs m h=>⟨m.tip,h,λh=>h,λ_=>rfl⟩⟩
def Mem.more{p:PSt}(M:Mem J I p H)(n:Nat):Mem J I p {H with next:=H.next+n}:=
 ⟨M.le,λid a h=>Nat.lt_of_lt_of_le (M.lt id a h) (Nat.le_add_right _ _),M.inj,M.live,λid o h=>(M.get id o h).keep (I1:=gQ) (sV n) (.refl H J) rfl (λ_ _=>rfl) λi off hi _=>⟨rfl,hi⟩,
  λa ha=>M.free a (Nat.le_trans (Nat.le_add_right _ _) ha),M.ver⟩
def FR.more(F:FR J I H S A)(n:Nat):FR J I {H with next:=H.next+n} S A:=F.keep (I1:=gQ) (sV n) (.refl H J) λi t hi _=>⟨rfl,hi⟩
def Adv.more{p:PSt}(n:Nat):Adv J I p H J I p {H with next:=H.next+n}:=⟨(sV n).weak λ_ _=>rfl,.refl H J,.refl H I,.refl p,λa cs m h=>⟨cs,m.tip,h⟩,λ_ _ h _=>⟨rfl,h⟩⟩
def Mem.cln{p:PSt}(M:Mem J I p H):Mem J I (PI.cln p) H:=⟨M.le,M.lt,M.inj,M.live,M.get,M.free,M.ver⟩
def Mem.dty{p':PSt}(M:Mem J I p' H)(p:PSt):Mem J I (PI.dty p p') H:=⟨M.le,M.lt,M.inj,M.live,M.get,M.free,M.ver⟩
def Adv.dty{p p':PSt}(h:Adv J I (PI.cln p) H J' I' p' H'):Adv J I p H J' I' (PI.dty p p') H':=
 ⟨h.keep,h.mon,h.out,⟨h.dp.next,λid hi=>h.dp.dirty id hi,λid hi=>cJ.2 (.inr hi),λk hk hd=>h.dp.mem k hk hd⟩,h.rz,λid a hi hd=>h.bx id a hi λhh=>hd (cJ.2 (.inl hh))⟩
def aH0{pc:fB}{ac:FuncId->Array Value->St->Option (Value×St)}(bj:gT pc ac){α id:Nat}{ops:Array Oper}{draw:Bool}{ms:List Nat}{sc:List aHx}{p p':PSt}{S':PS}
    (bz:dC P α (.region id ops draw)=true) (dm:vZ (.region id ops draw ms sc)) (M:Mem J I p H) (F:FR J I H S A)
    (h:(bif draw then(fitP ops (iL P pc ops ms sc [] S (cln p))).map (λr=>(r.1,dty p r.2))else aCW P pc ops sc S p)=some (S',p')):
    ∃A' H' J' I',eH P ac ops draw A H=some (A',H')/\Mem J' I' p' H'/\FR J' I' H' S' A'/\Adv J I p H J' I' p' H'/\(∀j,j<H.next->H.get j=none->H'.get j=none):=by
 simp only[dC,bjE,List.all_eq_true,Bool.or_eq_true,Bool.not_eq_true']at bz;obtain⟨dg,hdr⟩:=bz;have pz: ∀o∈ops.toList,o.op.operands.all (aM P)=true:=λo ho=>by
  have:=dg o ho;simp only[gY,bjE]at this;exact this.2
 unfold eH;cases draw with
 |false=>
  simp only[cdf]at h⊢;simp only[vZ]at dm;obtain⟨A',H',J',I',h1,h2,h3,h4,h5⟩:=runP_ok bj (base:=H.next) pz sc 0 J I S p A {H with next:=H.next+ops.size} S' p' (by simpa [List.range_eq_range']using dm) (Nat.zero_le _) (nlR _)
   (λj _ hj=>M.free _ (Nat.le_add_right _ _)) (M.more _) (F.more _) h
  exact⟨A',H',J',I',h1,h2,h3,(Adv.more _).trans h4,λj hj hn=>h5 j hj hn⟩
 |true=>
  simp only[cdt]at h⊢;simp only[vZ,if_true]at dm;obtain⟨rfl,dm⟩:=dm;have hD:=hdr.resolve_left (by simp)
  obtain⟨gb,bi⟩:=aAj hD;simp only[mjE,pjE]at h;obtain⟨⟨S2,p2⟩,h,rfl,rfl⟩:=h;obtain⟨h,htw⟩:=aK6 h;obtain⟨A',H',J',I',h1,h2,h3,h4,h5⟩:=runDP_ok bj (base:=H.next) pz sc [] [] J I S (cln p) A {H with next:=H.next+ops.size} S2 p2 (by rw[dm];exact gb)
   (λj hj=>⟨(bi j (by rw[<-dm];exact hj)).1,M.free _ (Nat.le_add_right _ _)⟩) (nlR _) (λr hr=>by simp at hr) (M.cln.more _) (F.more _) h
  rw[dm]at h1;refine⟨A',H',J',I',?_,h2.dty p,h3,(Adv.more _).trans h4.dty,λj hj hn=>h5 j hj hn⟩
  rw[h1];simp only[fitTw,okTw_ok h2 h3 htw,cdt]
def ExOK(P:Program)(ac:FuncId->Array Value->St->Option (Value×St))(L:Nat)(run:PS->PSt->Option (Fl×PS×PSt))(po:Slots->St->Option (Fl×Slots×St)):Prop:=
 ∀(J:Nu) (I:Ga) (S:PS) (p:PSt) (A:Slots) (H:St) (fl:Fl) (S':PS) (p':PSt),Mem J I p H->FR J I H S A->run S p=some (fl,S',p')->
  ∃A' H' J' I',po A H=some (fl,A',H')/\Mem J' I' p' H'/\FR J' I' H' S' A'/\Adv J I p H J' I' p' H'/\(∀j,j<H.next->H.get j=none->H'.get j=none)
def iterP_ok{ac:FuncId->Array Value->St->Option (Value×St)}{L:Nat}{run:PS->PSt->Option (Fl×PS×PSt)}{po:Slots->St->Option (Fl×Slots×St)}(h:ExOK P ac L run po): ∀n,ExOK P ac L (aAn run n) (iter po n):=by
 intro n;induction n with
 |zero=>intro J I S p A H fl S' p' M F hr;simp only[aAn]at hr;cases hr
 |succ n ih=>
  intro J I S p A H fl S' p' M F hr;simp only[aAn]at hr;simp only[iter];cases hb:run S p with
  |none=>rw[hb]at hr;cases hr
  |some r=>
   obtain⟨f1,S1,p1⟩:=r;rw[hb]at hr;obtain⟨A1,H1,J1,I1,k1,k2,k3,k4,k5⟩:=h J I S p A H f1 S1 p1 M F hb;rw[k1];cases f1 with
   |normal=>
    simp only at hr⊢;obtain⟨A',H',J',I',j1,j2,j3,j4,j5⟩:=ih J1 I1 S1 p1 A1 H1 fl S' p' k2 k3 hr;exact⟨A',H',J',I',j1,j2,j3,k4.trans j4,λj hj hn=>j5 j (Nat.lt_of_lt_of_le hj k4.keep.next) (k5 j hj hn)⟩
   |exit m=>
    simp only[ojE,pjE]at hr;obtain⟨rfl,rfl,rfl⟩:=hr;exact⟨A1,H1,J1,I1,rfl,k2,k3,k4,k5⟩
   |ret=>
    simp only[ojE,pjE]at hr;obtain⟨rfl,rfl,rfl⟩:=hr;exact⟨A1,H1,J1,I1,rfl,k2,k3,k4,k5⟩
def execP_ok{pc:fB}{ac:FuncId->Array Value->St->Option (Value×St)}(bj:gT pc ac)(L α:Nat): ∀(c:PC),vZ c->dC P α (cV c)=true->ExOK P ac L (dJ P pc L c) (bN P ac L (cV c)):=by
 intro c;induction c with
 |skip=>
  intro _ _ J I S p A H fl S' p' M F h;simp only[dJ,ojE,pjE]at h;obtain⟨rfl,rfl,rfl⟩:=h;exact⟨A,H,J,I,rfl,M,F,.refl J I _ H,λj _ h=>h⟩
 |label l=>
  intro _ _ J I S p A H fl S' p' M F h;simp only[dJ,ojE,pjE]at h;obtain⟨rfl,rfl,rfl⟩:=h;exact⟨A,H,J,I,rfl,M,F,.refl J I _ H,λj _ h=>h⟩
 |region id ops draw ms sc=>
  intro hk bz J I S p A H fl S' p' M F h;simp only[dJ,mjE,pjE]at h;obtain⟨⟨S1,p1⟩,hr,rfl,rfl,rfl⟩:=h;obtain⟨A',H',J',I',h1,h2,h3,h4,h5⟩:=aH0 bj bz hk M F hr;exact⟨A',H',J',I',by simp only[cV,bN,h1];rfl,h2,h3,h4,h5⟩
 |seq a b fj la=>
  intro hk bz J I S p A H fl S' p' M F h;simp only[cV,dC,bjE]at bz;simp only[dJ]at h;simp only[cV,bN];cases hb:dJ P pc L a S p with
  |none=>rw[hb]at h;cases h
  |some r=>
   obtain⟨f1,S1,p1⟩:=r;rw[hb]at h;obtain⟨A1,H1,J1,I1,k1,k2,k3,k4,k5⟩:=fj hk.1 bz.1 J I S p A H f1 S1 p1 M F hb;rw[k1];cases f1 with
   |normal=>
    simp only at h⊢;obtain⟨A',H',J',I',j1,j2,j3,j4,j5⟩:=la hk.2 bz.2 J1 I1 S1 p1 A1 H1 fl S' p' k2 k3 h;exact⟨A',H',J',I',j1,j2,j3,k4.trans j4,λj hj hn=>j5 j (Nat.lt_of_lt_of_le hj k4.keep.next) (k5 j hj hn)⟩
   |exit m=>
    simp only[ojE,pjE]at h;obtain⟨rfl,rfl,rfl⟩:=h;exact⟨A1,H1,J1,I1,rfl,k2,k3,k4,k5⟩
   |ret=>
    simp only[ojE,pjE]at h;obtain⟨rfl,rfl,rfl⟩:=h;exact⟨A1,H1,J1,I1,rfl,k2,k3,k4,k5⟩
 |cond x a b fj la=>
  intro hk bz J I S p A H fl S' p' M F h;simp only[cV,dC,bjE]at bz;simp only[dJ]at h;have hx:=aZ F bz.1.1;split at h
  ·rename_i e;rw[e]at hx;obtain⟨A',H',J',I',k1,k2⟩:=fj hk.1 bz.1.2 J I S p A H fl S' p' M F h;refine⟨A',H',J',I',?_,k2⟩;simp only[cV,bN];generalize ev A x=w at hx;cases hx;exact k1
  ·rename_i e;rw[e]at hx;obtain⟨A',H',J',I',k1,k2⟩:=la hk.2 bz.2 J I S p A H fl S' p' M F h;refine⟨A',H',J',I',?_,k2⟩;simp only[cV,bN];generalize ev A x=w at hx;cases hx;exact k1
  ·cases h
 |block id c ih=>
  intro hk bz J I S p A H fl S' p' M F h;simp only[cV,dC]at bz;simp only[dJ]at h;simp only[cV,bN];cases hb:dJ P pc L c S p with
  |none=>rw[hb]at h;cases h
  |some r=>
   obtain⟨f1,S1,p1⟩:=r;rw[hb]at h;obtain⟨A1,H1,J1,I1,k1,k2,k3,k4,k5⟩:=ih hk bz J I S p A H f1 S1 p1 M F hb;rw[k1];cases f1 with
   |normal=>
    simp only[ojE,pjE]at h;obtain⟨rfl,rfl,rfl⟩:=h;exact⟨A1,H1,J1,I1,rfl,k2,k3,k4,k5⟩
   |exit m=>
    simp only at h⊢;cases he:Nat.beq m id with
    |true=>
     simp only[he,cdt,ojE,pjE]at h⊢;obtain⟨rfl,rfl,rfl⟩:=h;exact⟨A1,H1,J1,I1,⟨rfl,rfl,rfl⟩,k2,k3,k4,k5⟩
    |false=>
     simp only[he,cdf,ojE,pjE]at h⊢;obtain⟨rfl,rfl,rfl⟩:=h;exact⟨A1,H1,J1,I1,⟨rfl,rfl,rfl⟩,k2,k3,k4,k5⟩
   |ret=>
    simp only[ojE,pjE]at h;obtain⟨rfl,rfl,rfl⟩:=h;exact⟨A1,H1,J1,I1,rfl,k2,k3,k4,k5⟩
 |loop c ih=>
  intro hk bz;simp only[cV,dC]at bz;exact iterP_ok (ih hk bz) L
 |exit id=>
  intro _ _ J I S p A H fl S' p' M F h;simp only[dJ,ojE,pjE]at h;obtain⟨rfl,rfl,rfl⟩:=h;exact⟨A,H,J,I,rfl,M,F,.refl J I _ H,λj _ h=>h⟩
 |ret=>
  intro _ _ J I S p A H fl S' p' M F h;simp only[dJ,ojE,pjE]at h;obtain⟨rfl,rfl,rfl⟩:=h;exact⟨A,H,J,I,rfl,M,F,.refl J I _ H,λj _ h=>h⟩
 |scope c ih=>
  intro hk bz;simp only[cV,dC]at bz;exact ih hk bz
 |other c=>intro _ _ J I S p A H fl S' p' M F h;simp only[dJ]at h;cases h
 |drop ts c ih=>
  intro hk bz J I S p A H fl S' p' M F h;simp only[dJ]at h;exact ih hk bz J I _ p A H fl S' p' M (F.keeps ts) h
 |ice t c ih=>
  intro hk bz J I S p A H fl S' p' M F h;simp only[dJ]at h;split at h
  ·rename_i S1 p1 h1;obtain⟨J1,M1,F1,A1⟩:=pJ M F h1;obtain⟨A',H',J',I',k1,k2,k3,k4,k5⟩:=ih hk bz J1 I S1 p1 A H fl S' p' M1 F1 h;exact⟨A',H',J',I',k1,k2,k3,A1.trans k4,k5⟩
  ·cases h
def aGo: ∀(l:List (PV×Bool)) (i:Nat) (S:PS) (k:Nat),(aAF l i S).at k=if i<=k/\k<i+l.length then(l[k-i]?).getD (.und,false)else S.at k:=by
 intro l;induction l with
 |nil=>intro i S k;simp[aAF];omega
 |cons x l ih=>
  intro i S k;simp only[aAF,ih,lW,lcS];by_cases h:k=i
  ·subst h;simp;omega
  ·by_cases h2:i+1<=k/\k<i+1+l.length
   ·rw[if_pos h2,if_pos (by omega),show k-i=(k-(i+1))+1 by omega,gcS]
   ·rw[if_neg h2,if_neg h,if_neg (by omega)]
def FR.fill{args:List (PV×Bool)}{us:List Value}(r:RL J H (args.map (·.1)) us)(ho: ∀(i:Nat) (x:PV) (w:Value),args[i]?=some (x,true)->us[i]?=some w->Ow J I H (.slot i) x w):FR J I H (aAF args 0 .none) (kQ us 0 .nil):=by
 intro t;rw[aGo,aAE];have hl:args.length=us.length:=by have:=r.1;simpa using this
 by_cases h:0<=t/\t<0+args.length
 ·rw[if_pos h,if_pos (by rw[<-hl];exact h)]
  have h1:args[t]?=some (args[t]'(by omega)):=geG _
  obtain⟨u,h2,h3⟩:=r.get (i:=t) (x:=(args[t]'(by omega)).1) (by rw[List.getElem?_map,h1];rfl)
  simp only[Nat.sub_zero,h1,h2,Option.getD_some];refine⟨h3,λhb=>ho t _ u ?_ h2⟩
  rw[h1,<-hb]
 ·rw[if_neg h];exact⟨.und _,λh=>(by cases h)⟩
def aDd{p:PSt}(M:Mem J I p H)(F:FR J I H S A): ∀(l:List ResultVar) (vs:List (PV×Bool)),dM P S p l=some vs->∃us,dE P A H l=some us/\RL J H (vs.map (·.1)) us:=by
 intro l;induction l with
 |nil=>intro vs h;simp only[dM,ojE]at h;subst h;exact⟨[],rfl,.nil⟩
 |cons r l ih=>
  intro vs h;simp only[dM]at h;split at h
  ·rename_i v nb hv js;simp only[ojE]at h;subst h;obtain⟨us,h1,h2⟩:=ih nb js;have: ∃u,wN P A H r=some u/\R J H v.1 u:=by
    cases r with
    |tmp t=>simp only[lZ,ojE]at hv;subst hv;exact⟨_,rfl,(F t).1⟩
    |cell a t=>
     simp only[lZ,mjE]at hv;obtain⟨v',hl,rfl⟩:=hv;exact aAa M (F a).1 hl
   obtain⟨u,h3,h4⟩:=this;exact⟨u::us,by simp only[dE,h3,h1],.cons h4 h2⟩
  ·cases h
def first_ok{p:PSt}(M:Mem J I p H)(F:FR J I H S A){r:ResultVar}{l:List ResultVar}{v:PV×Bool}{vs:List (PV×Bool)}(h:dM P S p (r::l)=some (v::vs)){u:Value}{us:List Value}(h1:dE P A H (r::l)=some (u::us))(h3:R J H v.1 u):
    ∃I',(((v.2||iO v.1)&& !isE v.1)=true->Ow J I' H .hand (wk v.1) u)/\G2 I I':=by
 cases r with
 |tmp t=>
  have hv:v=S.at t:=by
   simp only[dM,lZ]at h;split at h
   ·rename_i v' nb e1 e2;simp only[ojE,List.cons.injEq]at h e1;rw[<-h.1,<-e1]
   ·cases h
  have hu:u=A.at t:=by
   simp only[dE,wN]at h1;split at h1
   ·rename_i v' nb e1 e2;simp only[ojE,List.cons.injEq]at h1 e1;rw[<-h1.1,<-e1]
   ·cases h1
  refine⟨PI.mv (.slot t) .hand I,λho=>?_,.mv (by simp) (by simp)⟩
  simp only[bjE]at ho;subst hv;subst hu;have how:Ow J (PI.mv (.slot t) .hand I) H .hand (S.at t).1 (A.at t):=by
   cases hs:(S.at t).2 with
   |true=>exact((F t).2 hs).mv (k':= .hand)
   |false=>
    rw[hs,Bool.false_or]at ho;have h5:=(F t).1;cases hx:(S.at t).1 with
    |nil=>rw[hx]at h5;generalize A.at t=w at h5⊢;cases h5;exact .nil _
    |_=>rw[hx]at ho;cases ho.1
  exact how.wk (by simpa using ho.2)
 |cell a t=>
  refine⟨I,λho=>?_,.refl I⟩
  simp only[dM,lZ]at h;split at h
  ·rename_i v' nb e1 e2;simp only[ojE,List.cons.injEq]at h;simp only[mjE]at e1;obtain⟨v2,_,rfl⟩:=e1;simp only[<-h.1,Bool.false_or,bjE]at ho⊢;rw[<-h.1]at h3;cases v2 with
   |nil=>cases h3;exact .nil _
   |_=>cases ho.1
  ·cases h
def aIt{p:PSt}(M:Mem J I p H)(F:FR J I H S A){l:List ResultVar}{vs:List (PV×Bool)}(h:dM P S p l=some vs):
    ∃us I',dE P A H l=some us/\R J H (bP vs).1 (yW us)/\((bP vs).2=true->Ow J I' H .hand (bP vs).1 (yW us))/\G2 I I':=by
 obtain⟨us,h1,h2⟩:=aDd M F l vs h;cases vs with
 |nil=>
  have:=h2.nil_inv;subst this;exact⟨[],I,h1,.mkTup .nil,λh=>(by cases h),.refl I⟩
 |cons v vs=>
  cases l with
  |nil=>simp[dM]at h
  |cons r l=>
   obtain⟨u,jd,rfl,h3,h4⟩:=h2.cons_inv;obtain⟨I',g1,g2⟩:=first_ok M F h h1 h3;cases vs with
   |nil=>
    have:=h4.nil_inv;subst this;exact⟨[u],I',h1,h3.wk,g1,g2⟩
   |cons v2 vs=>
    obtain⟨u2,us'',rfl,h5,h6⟩:=h4.cons_inv;refine⟨_,I',h1,.mkTup h2.wks,λh=>?_,g2⟩
    simp only[bP]at h;rw[bjE]at h;refine .tup _ _ u _ ?_ (g1 h.1);have h5:=h.2;show(wk v.1).one=true;generalize v.1=x at h5⊢;cases x with
    |sl z es=>cases es<;>rfl
    |emp=>rfl
    |nil=>rfl
    |_=>cases h5
end
end Go.PI
namespace Go.PI
open Go.AI
def uni:List Nat->List Nat->List Nat
 |[],l=>l
 |x::xs,l=>bif l.contains x then uni xs l else x::uni xs l
def del(l:List Nat)(k:List Nat):List Nat:=l.filter λx=> !k.contains x
def tmpOf:Operand->List Nat
 | .tmp t=>[t]
 |_=>[]
def usesOf(ops:Array Oper)(o:Oper):List Nat:=
 o.op.operands.toList.flatMap tmpOf++(match o.guard with|some (j,_)=>(match ops[j]? with|some q=>q.dst.toList|none=>[])|none=>[])
def aKO(ops:Array Oper):List Oper->List Nat->List Nat
 |[],out=>out
 |o::os,out=>uni (usesOf ops o) (del (aKO ops os out) o.dst.toList)
def lv(rs:List Nat):Code->List Nat->List (Nat×List Nat)->List Nat
 | .region _ ops _,out,_=>aKO ops ops.toList out
 | .seq a b,out,ex=>lv rs a (lv rs b out ex) ex
 | .cond c a b,out,ex=>uni (tmpOf c) (uni (lv rs a out ex) (lv rs b out ex))
 | .block id c,out,ex=>lv rs c out ((id,out)::ex)
 | .loop c,_,ex=>lv rs c [] ex
 | .exit id,_,ex=>match ex.find? λe=>Nat.beq e.1 id with|some e=>e.2|none=>[]
 | .ret,_,_=>rs
 | .scope c,out,ex=>lv rs c out ex
 |_,out,_=>out
def isApp(ops:Array Oper)(a i s:Nat):Bool:=
 match ops[a]?,ops[i]?,ops[s]? with
 |some oA,some oI,some oS=>
  match oA.op,oA.dst,oI.op,oI.dst,oS.op with
  | .call c,some d,.indexAddr _ (.tmp d') _,some b,.store _ (.tmp b') _=>jI oA&&Nat.beq d d'&&Nat.beq b b'
  |_,_,_,_,_=>false
 |_,_,_=>false
end Go.PI
namespace Go.PI
open Go.AI
section
variable{P:Program}{J J' J'':Nu}{I I1 I':Ga}{H H':St}{S:PS}{A:Slots}
def ovP:OV->PV
 | .s l=> .str l
 | .t=> .v (.bool true)
def orP(O:Orc)(f:FuncId)(args:List (PV×Bool)):Option OV:=
 bif Nat.beq f O.n then(match args with
 |[(.v (.int .i64 a),_),(.v (.int .i64 b),_)]=>(O.s a b).map .s
 |_=>none)else bif Nat.beq f O.m then(match args with
 |[]=>some .t
 |_=>none)else none
def gdP(O:Orc)(f:FuncId)(args:List (PV×Bool)):Bool:=
 bif Nat.beq f O.n then(match args with
 |[(.v (.int .i64 a),_),(.v (.int .i64 b),_)]=>true
 |_=>false)else bif Nat.beq f O.m then(match args with
 |[]=>true
 |_=>false)else true
variable(P) in
def aC6(pc:fB)(L:Nat)(c:PC)(rs:List ResultVar)(args:List (PV×Bool))(p:PSt):Option (PV×Bool×PSt):=match dJ P pc L c (aAF args 0 .none) (st0 p)with
 |some (.exit _,_,_)=>none
 |some (_,S,p')=>match dM P S p' rs with
  |some vs=>some ((bP vs).1,(bP vs).2,settle p (bP vs).1 p')
  |none=>none
 |none=>none
variable(P) in
def kU(O:Orc)(G:PTab)(L:Nat):Nat->fB
 |0,_,_,_=>none
 |n+1,f,args,p=>match orP O f args with
  |some s=>some (ovP s,false,p)
  |none=>bif !gdP O f args|| !aIs P f args.length then none else match G f with
   |some (c,rs)=>aC6 P (kU O G L n) L c rs args p
   |none=>none
def R.int_inv{x:Int}{k:IntKind}{u:Value}(h:R J H (.v (.int k x)) u):u= .int k x:=by cases h;rfl
def orA_of{O:Orc}{f:FuncId}{args:List (PV×Bool)}{us:Array Value}(r:RL J H (args.map (·.1)) us.toList)(h:gdP O f args=true):orA O f us=(orP O f args).map OV.v:=by
 unfold gdP at h;unfold orA orP;cases hf:Nat.beq f O.n with
 |false=>
  rw[hf,cdf]at h;simp only[cdf];cases hm:Nat.beq f O.m with
  |false=>rfl
  |true=>
   rw[hm,cdt]at h;simp only[cdt];split at h
   ·obtain⟨hl,_⟩:=r
    match hu:us.toList,hl with
    |[],_=>rfl
   ·cases h
 |true=>
  rw[hf,cdt]at h;simp only[cdt];split at h
  ·rename_i a o1 b o2;obtain⟨hl,hr⟩:=r
   match hu:us.toList,hl,hr with
   |[u,v],_,hr=>
    have e1:=R.int_inv (hr 0 _ u rfl rfl);have e2:=R.int_inv (hr 1 _ v rfl rfl);rw[e1,e2]
  ·cases h
def gdP_of{O:Orc}{f:FuncId}{args:List (PV×Bool)}{s:OV}(h:orP O f args=some s):gdP O f args=true:=by
 unfold orP at h;unfold gdP;cases hf:Nat.beq f O.n with
 |false=>
  rw[hf,cdf]at h;rw[cdf];cases hm:Nat.beq f O.m with
  |false=>rfl
  |true=>
   rw[hm,cdt]at h;rw[cdt];split at h
   ·rfl
   ·cases h
 |true=>
  rw[hf,cdt]at h;rw[cdt];split at h
  ·rfl
  ·cases h
def aHv(P C:Program)(G:PTab):Prop:=
 ∀f c rs,G f=some (c,rs)->∃fn,C.funcs[f]?=some fn/\fn.body=some (cV c)/\rs=fn.results.toList/\vZ c/\dC P fn.ntmps (cV c)=true
def aFe{pc:fB}{ac:FuncId->Array Value->St->Option (Value×St)}(ih:gT pc ac){L:Nat}{c:PC}{fn:Func}(h4:vZ c)(h5:dC P fn.ntmps (cV c)=true){args:List (PV×Bool)}{p p':PSt}{v:PV}{own:Bool}
    (h:aC6 P pc L c fn.results.toList args p=some (v,own,p')) {J:Nu} {I:Ga} {H:St} {us:Array Value} (M:Mem J I p H) (r:RL J H (args.map (·.1)) us.toList)
    (ho: ∀(i:Nat) (x:PV) (w:Value),args[i]?=some (x,true)->us.toList[i]?=some w->Ow J I H (.slot i) x w):
    ∃u H' J' I',dU P fn (bN P ac L (cV c) (kQ us.toList 0 .nil) H)=some (u,H')/\R J' H' v u/\(own=true->Ow J' I' H' .hand v u)/\Mem J' I' p' H'/\Adv J I p H J' I' p' H'/\∀j,j<H.next->H.get j=none->H'.get j=none:=by
 unfold aC6 at h;have M0:Mem J I (st0 p) H:=⟨M.le,M.lt,M.inj,M.live,M.get,M.free,M.ver⟩;have key: ∀fl S' p1,dJ P pc L c (aAF args 0 .none) (st0 p)=some (fl,S',p1)->(∀k,fl≠ .exit k)->∀vs,dM P S' p1 fn.results.toList=some vs->
      v=(bP vs).1->own=(bP vs).2->p'=settle p (bP vs).1 p1->
      ∃u H' J' I',dU P fn (bN P ac L (cV c) (kQ us.toList 0 .nil) H)=some (u,H')/\R J' H' v u/\(own=true->Ow J' I' H' .hand v u)/\Mem J' I' p' H'/\Adv J I p H J' I' p' H'/\∀j,j<H.next->H.get j=none->H'.get j=none:=by
  intro fl S' p1 he bu vs js hv kd du;obtain⟨A',H1,J1,I1,k1,k2,k3,k4,k5⟩:=execP_ok ih L fn.ntmps c h4 h5 J I _ _ (kQ us.toList 0 .nil) H fl S' p1 M0 (FR.fill r ho) he;obtain⟨jd,I2,j1,j2,j3,j4⟩:=aIt k2 k3 js;obtain⟨J3,m1,m2,m3,m4⟩:=aJy (own:=(bP vs).2) M (k2.g2 j4) (k4.trans (.g j4.out)) j2 j3;rw[k1];subst hv;subst kd;subst du;refine⟨yW jd,H1,J3,I2,?_,m1,m2,m3,m4,k5⟩;cases fl with
  |normal=>simp only[dU,j1];rfl
  |ret=>simp only[dU,j1];rfl
  |exit k=>exact absurd rfl (bu k)
 split at h
 ·cases h
 ·rename_i fl S' p1 bu he;split at h
  ·rename_i vs js;simp only[ojE,pjE]at h;exact key fl S' p1 he (λk e=>bu k e) vs js h.1.symm h.2.1.symm h.2.2.symm
  ·cases h
 ·cases h
def aCi{C:Program}{O:Orc}{G:PTab}(hw:O.w=none)(hG:aHv P C G)(L:Nat): ∀n,gT (kU P O G L n) (aAL P C O L n):=by
 intro n;induction n with
 |zero=>intro g args p v own p' h;simp only[kU]at h;cases h
 |succ n ih=>
  intro g args p v own p' h J I H us M r ho;simp only[kU]at h;split at h
  ·rename_i s hs;simp only[ojE,pjE]at h;obtain⟨rfl,rfl,rfl⟩:=h;refine⟨s.v,H,J,I,by simp only[aAL,orA_of r (gdP_of hs),hs,omS],(match s with| .s l=>R.str ⟨l.toArray⟩| .t=>R.v _ rfl),λh=>(by cases h),M,Adv.refl J I p H,λj _ h=>h⟩
  rename_i de;cases nk:gdP O g args with
  |false=>rw[nk]at h;cases h
  |true=>
  rw[nk]at h;cases kj:aIs P g args.length with
  |false=>rw[kj]at h;cases h
  |true=>
  rw[kj]at h;simp only[bnT,Bool.or_self,cdf]at h;have nv:us.size=args.length:=by have:=r.1;simpa using this.symm
  have lz:orA O g us=none:=by rw[orA_of r nk,de];rfl
  have hnw:orW O g us H=none:=by unfold orW;rw[hw]
  split at h
  ·rename_i c rs hg;obtain⟨fn,h1,h2,rfl,h4,h5⟩:=hG g c rs hg;simp only[aAL,lz,hnw,nv,kj,cdt,h1,h2];exact aFe ih h4 h5 h M r ho
  ·cases h
end
end Go.PI
