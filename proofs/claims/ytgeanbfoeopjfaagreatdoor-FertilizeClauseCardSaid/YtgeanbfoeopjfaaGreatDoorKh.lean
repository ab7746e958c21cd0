import Derived.Test.YtgeanbfoeopjfaaGreatDoorKg
import Derived.IntWalk
set_option linter.unusedVariables false
set_option linter.unusedSimpArgs false
set_option linter.constructorNameAsVariable false
namespace Go.AI
section
variable{P:Program}{S:Slots}{σ:St}{Q:Fl→Slots→St→Prop}
section
variable{t:TypeId}{x y:Operand}{k:IntKind}{a b:Int}
theorem n_lss:gM P .lss t x y (.int k a) (.int k b)=some (.bool (decide (a<b))):=by cases k<;>rfl
theorem n_leq:gM P .leq t x y (.int k a) (.int k b)=some (.bool (decide (a≤b))):=by cases k<;>rfl
theorem n_gtr:gM P .gtr t x y (.int k a) (.int k b)=some (.bool (decide (b<a))):=by cases k<;>rfl
theorem n_geq:gM P .geq t x y (.int k a) (.int k b)=some (.bool (decide (b≤a))):=by cases k<;>rfl
theorem n_eql:gM P .eql t x y (.int k a) (.int k b)=some (.bool (a==b)):=by cases k<;>rfl
theorem n_neq:gM P .neq t x y (.int k a) (.int k b)=some (.bool (a !=b)):=by cases k<;>rfl
theorem n_add:gM P .add t x y (.int k a) (.int k b)=some (.int k (k.wrap (a+b))):=by cases k<;>rfl
theorem n_sub:gM P .sub t x y (.int k a) (.int k b)=some (.int k (k.wrap (a-b))):=by cases k<;>rfl
theorem n_mul:gM P .mul t x y (.int k a) (.int k b)=some (.int k (k.wrap (a*b))):=by cases k<;>rfl
theorem n_quo(h:b≠0):gM P .quo t x y (.int k a) (.int k b)=some (.int k (k.wrap (a.tdiv b))):=by
 cases k<;>simp[gM,aM,aC,aR,aA,eqGuard,binOp,Op.intDiv,h,aB]
theorem n_rem(h:b≠0):gM P .rem t x y (.int k a) (.int k b)=some (.int k (a.tmod b)):=by
 cases k<;>simp[gM,aM,aC,aR,aA,eqGuard,binOp,Op.intDiv,h,aB]
theorem n_shl{k':IntKind}(h:0≤b):gM P .shl t x y (.int k a) (.int k' b)=some (.int k (k.wrap (a*2^(min b.toNat k.bits)))):=by
 have: ¬b<0:=by omega
 cases k<;>simp[gM,aM,aC,aR,aA,eqGuard,binOp,Op.shift,this,aB]
theorem n_shr{k':IntKind}(h:0≤b):gM P .shr t x y (.int k a) (.int k' b)=some (.int k (a.fdiv (2^(min b.toNat k.bits)))):=by
 have: ¬b<0:=by omega
 cases k<;>simp[gM,aM,aC,aR,aA,eqGuard,binOp,Op.shift,this,aB]
theorem n_and:gM P .and t x y (.int k a) (.int k b)=some (.int k (k.wrap ((BitVec.ofInt k.bits a&&&BitVec.ofInt k.bits b).toNat:Int))):=by cases k<;>rfl
theorem n_or:gM P .or t x y (.int k a) (.int k b)=some (.int k (k.wrap ((BitVec.ofInt k.bits a|||BitVec.ofInt k.bits b).toNat:Int))):=by cases k<;>rfl
theorem n_xor:gM P .xor t x y (.int k a) (.int k b)=some (.int k (k.wrap ((BitVec.ofInt k.bits a^^^BitVec.ofInt k.bits b).toNat:Int))):=by cases k<;>rfl
theorem n_andNot:gM P .andNot t x y (.int k a) (.int k b)=some (.int k (k.wrap ((BitVec.ofInt k.bits a&&& ~~~ BitVec.ofInt k.bits b).toNat:Int))):=by cases k<;>rfl
theorem aGV{c e:Bool}(ht:P.underlying t=some .bool):aP P (Op.equal t (.bool c) (.bool e))=some (c==e):=by
 unfold Op.equal;rw[show Op.maxDepth=Nat.succ 9999 from rfl,Op.equalIn.eq_2,aA,aD,ht];rfl
theorem n_eqb{c e:Bool}(ht:P.underlying t=some .bool):gM P .eql t x y (.bool c) (.bool e)=some (.bool (c==e)):=by
 simp only[gM,aM,aC,Bool.and_self,cdt,aR,aA,eqGuard,bnT,Bool.false_eq_true,if_false,aB,obS,binOp,aGV ht]
theorem n_neb{c e:Bool}(ht:P.underlying t=some .bool):gM P .neq t x y (.bool c) (.bool e)=some (.bool (!(c==e))):=by
 simp only[gM,aM,aC,Bool.and_self,cdt,aR,aA,eqGuard,bnT,Bool.false_eq_true,if_false,aB,obS,binOp,aGV ht]
theorem n_conv{s:TypeId}{d:TypeDesc}{k':IntKind}(hs:P.underlying s=some d)(ht:P.underlying t=some (.int k')):aconv P s t (.int k a)=some (.int k' (k'.wrap a)):=by
 unfold aconv;simp only[aC,cdt,aR,convert,aA,aD,hs,ht,obS,Conv.intToInt,aB,aM]
end
end
end Go.AI
namespace Go.AI
mutual
theorem fD: ∀(a:Value),cZ a a=true
 | .bool a| .int j a| .float j a| .complex j a c| .pointer a| .slice a l c| .map a| .chan a| .nilFunc| .nilIface=>by simp[cZ]
 | .string a=>by simp[cZ]
 | .func f ⟨xs⟩ ⟨ys⟩=>by simp[cZ,fE xs,fE ys]
 | .iface t v=>by simp[cZ,fD v]
 | .agg ⟨xs⟩=>by simp[cZ,fE xs]
 | .tuple ⟨xs⟩=>by simp[cZ,fE xs]
theorem fE: ∀(a:List Value),mK a a=true
 |[]=>by simp[mK]
 |x::xs=>by simp[mK,fD x,fE xs]
end
theorem rO: ∀(a:List (Value×Value)),tG a a=true
 |[]=>by simp[tG]
 |x::xs=>by simp[tG,fD,rO xs]
theorem tF(m:Mta):lE m m=true:=by simp[lE,cG]
theorem nS(a:AObj):iU a a=true:=by
 cases a with
 |cells cs m=>simp[iU,fE,tF]
 |map es=>simp[iU,rO]
end Go.AI
namespace Go.PI
open Go.AI
def Rz(σ σ':St):Prop:= ∀a cs m,σ.get a=some (.cells cs m)→∃cs' b,σ'.get a=some (.cells cs' {m with tip:=b})
def g00:Ga:=fun _=>none
section
variable{P:Program}{ν ν':Nu}{γ γ1 γ':Ga}{σ σ':St}{S:PS}{A:Slots}{base:Nat}
theorem Qt.put{id:Nat}{o:AObj}(hf:σ.get id=none):Qt σ (σ.put id o):=
 ⟨rfl,fun a ob h=> .inl (by rw[aH,if_neg (fun e=>by rw[e,hf]at h;cases h)];exact h)⟩
theorem Qt.row(q:Qt σ σ'){id:Nat}{cs:List Value}{m:Mta}(h:σ.row id=some (cs,m)): ∃b,σ'.row id=some (cs,{m with tip:=b}):=by
 obtain⟨h1,h2⟩:=bQ h;rcases q.get id _ h1 with e|⟨cs',m',b,e1,_,e2⟩
 ·exact⟨m.tip,row_of_get e (by rw[gG q.vers];exact h2)⟩
 ·simp only[AObj.cells.injEq]at e1;obtain⟨rfl,rfl⟩:=e1;exact⟨b,row_of_get e2 (by rw[gG q.vers];exact h2)⟩
theorem aHX{t:TypeId}{w u:Value}(hrow: ∀id cs m,σ.row id=some (cs,m)→∃m',σ'.row id=some (cs,m'))(h:gJ P σ t w=some u):gJ P σ' t w=some u:=by
 unfold gJ at h⊢;split at h
 ·split at h
  ·rename_i cs m hr;obtain⟨m',hr'⟩:=hrow _ _ _ hr;simp only[hr'];exact h
  ·cases h
 ·cases h
theorem aEF{t:TypeId}{w u:Value}{lo hi mx:Option Value}(hrow: ∀id cs m,σ.row id=some (cs,m)→∃cs' m',σ'.row id=some (cs',m')∧m'.z=m.z)
    (hex: ∀id off n c,w= .slice (some ⟨id,off,none⟩) n c→∃cs m,σ.row id=some (cs,m)) (h:oB P σ t w lo hi mx=some u):oB P σ' t w lo hi mx=some u:=by
 unfold oB at h⊢;split at h
 ·exact h
 ·rename_i e he;split at h
  ·rename_i a len c;split at h
   ·rename_i z l hh m e1 e2 e3 e4;cases hc:decide (0≤l.getD 0)&&decide (l.getD 0≤hh.getD (len:Int))&&decide (hh.getD (len:Int)≤(len:Int))with
    |false=>simp only[hc,cdf]at h;cases h
    |true=>
     simp only[hc,cdt]at h⊢;split at h
     ·exact h
     ·rename_i id off;obtain⟨cs,mm,hr⟩:=hex id off len c rfl;obtain⟨cs',m',hr',hz'⟩:=hrow _ _ _ hr;have:zR σ' id z=zR σ id z:=by simp only[zR,hr,hr',hz']
      rw[this];exact h
     ·exact h
   ·cases h
  ·cases h
 ·cases h
theorem aload_qt(q:Qt σ σ'){ρ:Operand→Value}{o:Oper}{t:TypeId}{a:Operand}(ho:o.op= .load t a){v:Value}(h:gH P σ ρ o=some v):gH P σ' ρ o=some v:=by
 simp only[gH,ho]at h⊢;refine aHX (fun id cs m hr=>?_) h
 obtain⟨b,hb⟩:=q.row hr;exact⟨_,hb⟩
theorem uR(q:Qt σ σ'){r:iO}(hl:r.ob=none→∃t a,r.o.op= .load t a)(hb: ∀ob,r.ob=some ob→(∀a,σ.get a=some ob→σ'.get a=some ob))(h:check P base σ r=true):check P base σ' r=true:=by
 unfold check at h⊢;split at h
 ·rename_i e;split at h
  ·rename_i v hv;obtain⟨t,a,ho⟩:=hl e;simp only[aload_qt q ho hv];exact h
  ·cases h
 ·rename_i ob e;split at h
  ·rename_i ob' hg;have:=rN h;subst this;simp only[hb ob' e _ hg];exact h
  ·cases h
def Stab(P:Program)(base:Nat)(ν:Nu)(σ:St)(r:iO):Prop:= ∀ν' σ',Keep ν g00 σ σ'→Mon σ ν ν'→Rz σ σ'→check P base σ' r=true
theorem Stab.adv{p p':PSt}{r:iO}(h:Stab P base ν σ r)(a:Adv ν γ p σ ν' γ' p' σ'):Stab P base ν' σ' r:=by
 intro ν'' σ'' k m z;refine h ν'' σ'' (Keep.trans (γ:=g00) (γ':=g00) (a.keep.weak fun _ h=>by cases h) a.mon k (.refl σ _)) (a.mon.trans m a.keep.dom) fun x cs mm hx=>?_
 obtain⟨cs',b,h1⟩:=a.rz x cs mm hx;obtain⟨cs'',b',h2⟩:=z x cs' _ h1;exact⟨cs'',b',h2⟩
def Looks(base:Nat)(r:iO)(a:Nat):Prop:=(r.ob=none∧∃t x off,r.o.op= .load t x∧ev r.S x= .pointer (some ⟨a,off,none⟩))∨(r.ob≠none∧base+r.i=a)
theorem aEC{r:iO}{a:Nat}(hl:Looks base r a)(hg:σ'.get a=σ.get a)(hv:σ'.vers=σ.vers)(h:check P base σ r=true):check P base σ' r=true:=by
 unfold check at h⊢;rcases hl with⟨h1,t,x,off,h2,h3⟩|⟨h1,h2⟩
 ·rw[h1]at h⊢;have hrow:σ'.row a=σ.row a:=by
   simp only[St.row,hg];cases σ.get a with
   |none=>rfl
   |some o=>cases o with
    |cells cs m=>simp only[gG hv]
    |map es=>rfl
  simp only[gH,h2,gJ,h3,hrow]at h⊢;exact h
 ·cases hob:r.ob with
  |none=>exact absurd hob h1
  |some ob=>rw[hob]at h;simp only[h2,hg]at h⊢;exact h
structure Trk(P:Program)(base:Nat)(ν:Nu)(p:PSt)(σ:St)(q:fN)(r:iO):Prop where
 cl: ∀id,cid q.o q.a q.v=some id→id∉p.wr→∃a,ν id=some (some a)∧Looks base r a∧check P base σ r=true
 i:q.i=r.i
 ok:q.stale=false→check P base σ r=true
 box:fT q.o=false→∀ob,r.ob=some ob→∃cs,ob= .cells cs boxMeta
 rd:r.ob=none→∃t a,r.o.op= .load t a
 ld: ∀t a,q.o.op= .load t a→r.ob=none∧r.o=q.o∧R ν σ q.a (ev r.S a)∧R ν σ q.v r.v
def Inv(P:Program)(base:Nat)(ν:Nu)(p:PSt)(σ:St)(Pl:List fN)(Rl:List iO):Prop:= ∀r∈Rl,Stab P base ν σ r∨∃q∈Pl,Trk P base ν p σ q r
theorem Trk.adv_cl{p p':PSt}{q:fN}{r:iO}(T:Trk P base ν p σ q r)(a:Adv ν γ p σ ν' γ' p' σ'): ∀id,cid q.o q.a q.v=some id→id∉p'.wr→∃a,ν' id=some (some a)∧Looks base r a∧check P base σ' r=true:=by
 intro id hid hd;obtain⟨b,h1,h2,h3⟩:=T.cl id hid fun hh=>hd (a.dp.wr id hh)
 obtain⟨e1,e2⟩:=a.bx id b h1 hd;exact⟨b,e2,h2,aEC h2 e1 a.keep.vers h3⟩
mutual
theorem aBY: ∀{x y:PV},vP x y=true→x=y
 | .v a,.v b,h=>by rw[jN a b h]
 | .str a,.str b,h=>by simp only[vP,beq_iff_eq]at h;rw[h]
 | .agg xs,.agg ys,h=>by rw[vN h]
 | .v _,.str _,h| .v _,.agg _,h| .v _,.tup _,h| .v _,.nil,h| .v _,.emp,h| .v _,.sl _ _,h| .v _,.pin _ _ _,h| .v _,.ptr _ _,h| .v _,.rs _ _ _,h| .v _,.mp _,h| .v _,.fn _ _ _,h| .v _,.und,h=>by simp[vP]at h
 | .str _,.v _,h| .str _,.agg _,h| .str _,.tup _,h| .str _,.nil,h| .str _,.emp,h| .str _,.sl _ _,h| .str _,.pin _ _ _,h| .str _,.ptr _ _,h| .str _,.rs _ _ _,h| .str _,.mp _,h| .str _,.fn _ _ _,h| .str _,.und,h=>by simp[vP]at h
 | .agg _,.v _,h| .agg _,.str _,h| .agg _,.tup _,h| .agg _,.nil,h| .agg _,.emp,h| .agg _,.sl _ _,h| .agg _,.pin _ _ _,h| .agg _,.ptr _ _,h| .agg _,.rs _ _ _,h| .agg _,.mp _,h| .agg _,.fn _ _ _,h| .agg _,.und,h=>by simp[vP]at h
 | .tup _,_,h| .nil,_,h| .emp,_,h| .sl _ _,_,h| .pin _ _ _,_,h| .ptr _ _,_,h| .rs _ _ _,_,h| .mp _,_,h| .fn _ _ _,_,h| .und,_,h=>by simp[vP]at h
theorem vN: ∀{xs ys:List PV},vO xs ys=true→xs=ys
 |[],[],_=>rfl
 |x::xs,y::ys,h=>by
  simp only[vO,bjE]at h;rw[aBY h.1,vN h.2]
 |[],_::_,h|_::_,[],h=>by simp[vO]at h
end
theorem Inv.check{p:PSt}{Pl:List fN}{Rl:List iO}(I:Inv P base ν p σ Pl Rl)(M:Mem ν γ p σ)(h:Pl.all (jZ P p)=true):Rl.all (AI.check P base σ)=true:=by
 rw[List.all_eq_true]at h⊢;intro r hr;rcases I r hr with hs|⟨q,hq,T⟩
 ·exact hs ν σ (.refl ν g00 σ) (.refl σ ν) fun a cs m h=>⟨cs,m.tip,h⟩
 ·have hc:=h q hq;unfold jZ at hc;cases hst:q.stale with
  |false=>exact T.ok hst
  |true=>
   rw[hst]at hc;simp only[bnT,Bool.false_or,Bool.or_eq_true]at hc;rcases hc with hc|hc
   ·cases hcid:cid q.o q.a q.v with
    |none=>rw[hcid]at hc;cases hc
    |some id=>
     rw[hcid]at hc;simp only[clean,Bool.not_eq_true',List.contains_eq_mem,dfN]at hc;obtain⟨_,_,_,h3⟩:=T.cl id hcid hc;exact h3
   split at hc
   ·rename_i t a ho;simp only[bjE]at hc;obtain⟨h1,h2,h3,h4⟩:=T.ld t a ho;cases hv:toV q.v with
    |none=>rw[hv]at hc;simp at hc
    |some w=>
     split at hc
     ·rename_i v' hl;have:=aBY hc.2;subst this;obtain⟨u,hu,hr'⟩:=tN M h3 hl;obtain⟨rfl,_⟩:=aBR hv hr';obtain⟨e,_⟩:=aBR hv h4;unfold AI.check;rw[h1];simp only[gH,h2,ho,hu];rw[e];exact fD _
     ·simp at hc
   ·cases hc
theorem aEL{id:Nat}{c:Call}{s x u:Value}(hf:σ.get id=none)(h1:gC P σ id c s x=some (u,σ')):Qt σ σ':=by
 unfold gC at h1;split at h1
 ·split at h1
  ·rename_i e d _ _;cases hc:fits d x with
   |false=>rw[hc,cdf]at h1;cases h1
   |true=>
    rw[hc,cdt]at h1;split at h1
    ·rename_i info _;split at h1
     ·rename_i n xs z _ _;cases hc2:xs.all one&&Nat.ble 1 info.size&&Nat.ble 1 info.bytes&&Nat.beq z.cells.size info.size&&dH s with
      |false=>rw[hc2,cdf]at h1;cases h1
      |true=>
       rw[hc2,cdt]at h1;cases hc3:Nat.beq n 0 with
       |true=>rw[hc3,cdt]at h1;simp only[ojE,pjE]at h1;obtain⟨_,rfl⟩:=h1;exact .refl σ
       |false=>
        rw[hc3,cdf]at h1;unfold iN at h1;split at h1
        ·cases hc4:Nat.ble (n*info.bytes) 1073741824 with
         |false=>rw[hc4,cdf]at h1;cases h1
         |true=>rw[hc4,cdt]at h1;simp only[ojE,pjE]at h1;obtain⟨_,rfl⟩:=h1;exact .put hf
        ·rename_i id0 off len k;cases hc4:Nat.ble ((len+n)*info.bytes) 1073741824 with
         |false=>rw[hc4,cdf]at h1;cases h1
         |true=>
          rw[hc4,cdt]at h1;split at h1
          ·rename_i cs m hrow;split at h1
           ·rename_i old _;cases hc5:Nat.beq k len with
            |true=>rw[hc5,cdt]at h1;simp only[ojE,pjE]at h1;obtain⟨_,rfl⟩:=h1;exact .put hf
            |false=>
             rw[hc5,cdf]at h1;cases hc6:m.tip&&m.wr&&Nat.beq m.z info.size&&Nat.beq (off+len*info.size) cs.length&&m.grp.isSome with
             |false=>rw[hc6,cdf]at h1;cases h1
             |true=>
              rw[hc6,cdt]at h1;simp only[ojE,pjE]at h1;obtain⟨_,rfl⟩:=h1;simp only[bjE]at hc6;refine⟨rfl,fun a ob hg=>?_⟩
              rw[aH,if_neg (fun e=>by rw[e,hf]at hg;cases hg),aH]
              by_cases e2:a=id0
              ·subst e2;rw[(bQ hrow).1]at hg;simp only[ojE]at hg;subst hg;rw[if_pos rfl];exact .inr ⟨cs,m,false,rfl,hc6.1.1.1.1,rfl⟩
              ·rw[if_neg e2];exact .inl hg
           ·cases h1
          ·cases h1
        ·rename_i b0 o0 s0 l0 k0;cases hc4:Nat.beq s0 1&&Nat.ble (n*info.bytes) 1073741824 with
         |false=>rw[hc4,cdf]at h1;cases h1
         |true=>rw[hc4,cdt]at h1;simp only[ojE,pjE]at h1;obtain⟨_,rfl⟩:=h1;exact .put hf
        ·cases h1
     ·cases h1
    ·cases h1
  ·cases h1
 ·cases h1
theorem Inv.qt{p p':PSt}{Pl:List fN}{Rl:List iO}(I:Inv P base ν p σ Pl Rl)(a:Adv ν γ p σ ν' γ' p' σ')(q:Qt σ σ')(hx: ∀q∈Pl,fT q.o=true→q.stale=false→∀a ob,σ.get a=some ob→σ'.get a=some ob):Inv P base ν' p' σ' Pl Rl:=by
 intro r hr;rcases I r hr with hs|⟨k,hk,T⟩
 ·exact .inl (hs.adv a)
 ·refine .inr ⟨k,hk,T.adv_cl a,T.i,fun hst=>uR q T.rd (fun ob hob b hb=>?_) (T.ok hst),T.box,T.rd,fun t x ho=>?_⟩
  ·cases hm:fT k.o with
   |true=>exact hx k hk hm hst b ob hb
   |false=>
    obtain⟨cs,rfl⟩:=T.box hm ob hob;rcases q.get b _ hb with e|⟨cs',m',b',e1,e2,_⟩
    ·exact e
    ·simp only[AObj.cells.injEq]at e1;obtain⟨rfl,rfl⟩:=e1;cases e2
  ·obtain⟨h1,h2,h3,h4⟩:=T.ld t x ho;exact⟨h1,h2,h3.keep a.keep a.mon,h4.keep a.keep a.mon⟩
theorem Inv.filter{p:PSt}{Pl:List fN}{Rl:List iO}(I:Inv P base ν p σ Pl Rl)(f:Nat→Bool):Inv P base ν p σ (Pl.filter fun q=>f q.i) (Rl.filter fun r=>f r.i):=by
 intro r hr;rw[List.mem_filter]at hr;rcases I r hr.1 with hs|⟨k,hk,T⟩
 ·exact .inl hs
 ·exact .inr ⟨k,List.mem_filter.2 ⟨hk,by rw[T.i];exact hr.2⟩,T⟩
theorem Inv.stale{p p':PSt}{Pl:List fN}{Rl:List iO}(I:Inv P base ν p σ Pl Rl)(a:Adv ν γ p σ ν' γ' p' σ'):Inv P base ν' p' σ' (Pl.map fun q=>{q with stale:=true}) Rl:=by
 intro r hr;rcases I r hr with hs|⟨k,hk,T⟩
 ·exact .inl (hs.adv a)
 ·refine .inr ⟨_,List.mem_map.2 ⟨k,hk,rfl⟩,T.adv_cl a,T.i,fun h=>(by cases h),T.box,T.rd,fun t x ho=>?_⟩
  obtain⟨h1,h2,h3,h4⟩:=T.ld t x ho;exact⟨h1,h2,h3.keep a.keep a.mon,h4.keep a.keep a.mon⟩
theorem Inv.some{p p':PSt}{Pl:List fN}{Rl:List iO}(I:Inv P base ν p σ Pl Rl)(a:Adv ν γ p σ ν' γ' p' σ')(q:Qt σ σ'):Inv P base ν' p' σ' (Pl.map fun q=>bif !fT q.o then q else{q with stale:=true}) Rl:=by
 intro r hr;rcases I r hr with hs|⟨k,hk,T⟩
 ·exact .inl (hs.adv a)
 ·cases hm:fT k.o with
  |true=>
   refine .inr ⟨{k with stale:=true},List.mem_map.2 ⟨k,hk,by simp[hm]⟩,T.adv_cl a,T.i,fun h=>(by cases h),T.box,T.rd,fun t x ho=>?_⟩
   obtain⟨h1,h2,h3,h4⟩:=T.ld t x ho;exact⟨h1,h2,h3.keep a.keep a.mon,h4.keep a.keep a.mon⟩
  |false=>
   refine .inr ⟨k,List.mem_map.2 ⟨k,hk,by simp[hm]⟩,T.adv_cl a,T.i,fun hst=>uR q T.rd (fun ob hob b hb=>?_) (T.ok hst),T.box,T.rd,fun t x ho=>?_⟩
   ·obtain⟨cs,rfl⟩:=T.box hm ob hob;rcases q.get b _ hb with e|⟨cs',m',b',e1,e2,_⟩
    ·exact e
    ·simp only[AObj.cells.injEq]at e1;obtain⟨rfl,rfl⟩:=e1;cases e2
   ·obtain⟨h1,h2,h3,h4⟩:=T.ld t x ho;exact⟨h1,h2,h3.keep a.keep a.mon,h4.keep a.keep a.mon⟩
theorem R.vid{p:PSt}(M:Mem ν γ p σ){v:PV}{u:Value}{id:Nat}(r:R ν σ v u)(hv:PI.vid v=Option.some id)(hg: ∃o,p.get id=Option.some o∧o≠ .gone):
    ∃a,ν id=Option.some (Option.some a)∧((∃off,u= .pointer (Option.some ⟨a,off,none⟩))∨∃off n c,u= .slice (Option.some ⟨a,off,none⟩) n c):=by
 obtain⟨o,ho,hne⟩:=hg;have hν: ∃a,ν id=Option.some (Option.some a):=by
  have:=M.get id o ho;cases o with
  |box cs=>obtain⟨a,us,h1,_⟩:=this;exact⟨a,h1⟩
  |row z ag cs=>obtain⟨a,us,h1,_⟩:=this;exact⟨a,h1⟩
  |map es=>exact this.elim
  |gone=>exact absurd rfl hne
 obtain⟨a,ha⟩:=hν;refine⟨a,ha,?_⟩;cases v<;>simp only[PI.vid,ojE]at hv<;>try cases hv
 ·cases r with
  |ptr _ off' a' h=>rw[ha]at h;simp only[ojE]at h;subst h;exact .inl ⟨_,rfl⟩
  |ptr0 _ off a' h=>rw[ha]at h;cases h
 ·cases r with
  |rs _ off' len' c a' h=>rw[ha]at h;simp only[ojE]at h;subst h;exact .inr ⟨_,_,_,rfl⟩
  |rs0 _ off len c a' h=>rw[ha]at h;cases h
theorem fU{α:Type}{c:Bool}{A:Option α}{x:α}(h:(bif c then A else none)=Option.some x):A=Option.some x:=by cases c with
 |false=>cases h
 |true=>exact h
theorem bif_or{α:Type}{c:Bool}{A B x:α}(h:(bif c then A else B)=x):A=x∨B=x:=by cases c with
 |false=>exact .inr h
 |true=>exact .inl h
theorem yU{ρ:Operand→Value}{o:Oper}{id a:Nat}{u:Value}{ob:AObj}(h:dZ P ρ o id=Option.some (u,ob))(hu:(∃off,u= .pointer (Option.some ⟨a,off,none⟩))∨∃off n c,u= .slice (Option.some ⟨a,off,none⟩) n c):id=a:=by
 have fin: ∀{off n k:Nat},u= .pointer (Option.some ⟨id,off,none⟩)∨u= .slice (Option.some ⟨id,off,none⟩) n k∨u= .map (Option.some id)→id=a:=by
  rintro off n k (rfl|rfl|rfl)<;>rcases hu with⟨o2,e⟩|⟨o2,n2,c2,e⟩<;>first|(cases e;rfl)|cases e
 obtain⟨dst,op,ty,pos,af,g⟩:=o;cases op<;>simp only[dZ]at h<;>try cases h
 ·split at h<;>try cases h
  have h:=fU h;simp only[ojE,pjE]at h;exact fin (n:=0) (k:=0) (.inl h.1.symm)
 ·have h:=fU h;simp only[ojE,pjE]at h;exact fin (n:=0) (k:=0) (.inl h.1.symm)
 ·split at h<;>try cases h
  split at h<;>try cases h
  split at h<;>try cases h
  have h:=fU h;simp only[mjE,pjE]at h;obtain⟨cs,_,h2,_⟩:=h;exact fin (.inr (.inl h2.symm))
 ·split at h<;>try cases h
  split at h<;>try cases h
  split at h<;>try cases h
  have h:=fU h;rcases bif_or h with h|h
  ·simp only[ojE,pjE]at h;exact fin (.inr (.inl h.1.symm))
  ·simp only[ojE,pjE]at h;exact fin (.inr (.inl h.1.symm))
theorem Inv.cons{p:PSt}{Pl:List fN}{Rl:List iO}(I:Inv P base ν p σ Pl Rl){r:iO}(h:Stab P base ν σ r):Inv P base ν p σ Pl (r::Rl):=by
 intro x hx;rcases List.mem_cons.1 hx with rfl|hx
 ·exact .inl h
 ·exact I x hx
theorem Inv.cons2{p:PSt}{Pl:List fN}{Rl:List iO}(I:Inv P base ν p σ Pl Rl){r:iO}{q:fN}(h:Trk P base ν p σ q r):Inv P base ν p σ (q::Pl) (r::Rl):=by
 intro x hx;rcases List.mem_cons.1 hx with rfl|hx
 ·exact .inr ⟨q,mhE ..,h⟩
 ·rcases I x hx with h|⟨k,hk,T⟩
  ·exact .inl h
  ·exact .inr ⟨k,mtE _ hk,T⟩
end
end Go.PI
namespace Go.PI
open Go.AI
section
variable{P:Program}{ν ν':Nu}{γ γ1 γ':Ga}{σ σ':St}{S:PS}{A:Slots}{base:Nat}
theorem aAs{o:Oper}(h:aW o= .pure)(S:PS):fI o S=false:=by
 obtain⟨dst,op,ty,pos,af,g⟩:=o;cases op<;>first|rfl|(simp[aW]at h)
theorem aFx{p p1:PSt}{o:Oper}{take own:Bool}{v:PV}{u:Value}{i:Nat}(M:Mem ν γ p σ)(F:FR ν γ σ S A)(ho:o.op.operands.all (aI P)=true)(hp:iW P p S o take=some (v,own,p1))(hn:fI o S=false)
    (hu:gH P σ (ev A) o=some u):Stab P base ν σ ⟨i,o,A,u,none⟩:=by
 intro ν' σ' k m z;have hsame:gH P σ' (ev A) o=some u→check P base σ' ⟨i,o,A,u,none⟩=true:=by
  intro h;simp only[check,h];exact fD u
 apply hsame
 replace ho:=pD ho
 obtain⟨dst,op,ty,pos,af,g⟩:=o;cases op with
 |load t a=>
  simp only[Op.operands,alC,List.all_nil,bnA]at ho;have ra:=aU F ho;simp only[gH]at hu⊢;simp only[iW]at hp;split at hp
  ·rename_i v' hl;simp only[fI]at hn;cases hpa:pev S a<;>rw[hpa]at hl hn ra<;>simp only[fY]at hl<;>(try cases hl)<;>(try cases hn)
   generalize ev A a=w at ra hu⊢;cases ra with
   |pin zz _ _ _ id b rcs mm hs hr hb hh=>
    obtain⟨bb,hf⟩:=hr.keep k m;simp only[gJ,hr.1]at hu;simp only[gJ,hf.1];exact hu
  ·cases hp
 |slice t x lo hi mx=>
  simp only[gH]at hu⊢;simp only[Op.operands,Array.toList_append,List.all_append,bjE]at ho;have rx:=aU F (P:=P) (x:=x) (by simpa using ho.1.1.1)
  simp only[iW,mjE,pjE]at hp;obtain⟨⟨w,own'⟩,hw,_⟩:=hp;refine aEF (fun id cs mm hr=>?_) (fun id off n c hxx=>?_) hu
  ·obtain⟨h1,h2⟩:=bQ hr;obtain⟨cs',b,h3⟩:=z id cs mm h1;exact⟨cs',_,row_of_get h3 (by rw[gG k.vers];exact h2),rfl⟩
  ·rw[hxx]at rx;generalize pev S x=xv at rx hw;cases rx with
   |emp1 _ _ _ rcs m hr=>exact⟨_,_,hr.1⟩
   |sl _ _ _ _ _ rcs m hz hs hr hm hb hh=>exact⟨_,_,hr.1⟩
   |rs id' _ _ _ a hν=>
    obtain⟨o',ho'⟩:=M.live _ _ hν;have:=M.get _ _ ho';cases o' with
    |box cs=>obtain⟨a',us,h1,h2,_⟩:=this;rw[hν]at h1;simp only[ojE]at h1;subst h1;exact⟨_,_,row_of_get h2 rfl⟩
    |row z ag cs=>obtain⟨a',us,h1,h2,_⟩:=this;rw[hν]at h1;simp only[ojE]at h1;subst h1;exact⟨_,_,row_of_get h2 rfl⟩
    |map es=>exact this.elim
    |gone=>rw[show ν id'=some none from this]at hν;cases hν
   |v _ hp=>simp[aC]at hp
   |und _=>
    unfold fQ at hw;split at hw
    ·simp at hw
    ·split at hw<;>simp at hw
    ·cases hw
   |rs0 id' _ _ _ a hν=>
    unfold fQ at hw;split at hw
    ·simp at hw
    ·split at hw
     ·split at hw
      ·split at hw
       ·rename_i hg;obtain⟨a',us,h1,_⟩:=M.get _ _ hg
        simp_all
       ·cases hw
      all_goals simp_all
     ·cases hw
    ·cases hw
 |_=>simp only[iW]at hp;cases hp
theorem slice_fz{v:PV}{id off n c:Nat}(r:R ν σ v (.slice (some ⟨id,off,none⟩) n c))(hv:v= .emp∨∃z es,v= .sl z es): ∀k,ν k≠some (some id):=by
 rcases hv with rfl|⟨z,es,rfl⟩
 ·cases r with|emp1 _ _ _ rcs m hr=>exact hr.2
 ·cases r with|sl _ _ _ _ _ rcs m hz hs hr hm hb hh=>exact hr.2
theorem mkSl_or(z:Nat)(es:List PV):cQ z es= .emp∨∃z' es',cQ z es= .sl z' es':=by
 cases es with
 |nil=>exact .inl rfl
 |cons e es=>exact .inr ⟨z,_,rfl⟩
theorem runDP_ok{pc:gD}{ac:FuncId→Array Value→St→Option (Value×St)}(hcall:jL pc ac){ops:Array Oper}{ms:List Nat}(hops: ∀o∈ops.toList,o.op.operands.all (aI P)=true):
    ∀(sc:List aDJ) (Pl:List fN) (Rl:List iO) (ν:Nu) (γ:Ga) (S:PS) (p:PSt) (A:Slots) (σ:St) (S':PS) (p':PSt),(dU sc).Nodup→(∀j∈dU sc,j<ops.size∧σ.get (base+j)=none)→base+ops.size≤σ.next→
      Inv P base ν p σ Pl Rl→Mem ν γ p σ→FR ν γ σ S A→gE P pc ops ms sc Pl S p=some (S',p')→
      ∃A' σ' ν' γ',dG P ac ops ms base (dU sc) Rl A σ=some (A',σ')∧Mem ν' γ' p' σ'∧FR ν' γ' σ' S' A'∧Adv ν γ p σ ν' γ' p' σ'∧(∀j,j<base→σ.get j=none→σ'.get j=none):=by
 intro sc;induction sc with
 |nil=>
  intro Pl Rl ν γ S p A σ S' p' _ _ hb I M F h;simp only[gE]at h;cases hc:Pl.all (jZ P p)with
  |false=>rw[hc,cdf]at h;cases h
  |true=>
   rw[hc,cdt]at h;simp only[ojE,pjE]at h;obtain⟨rfl,rfl⟩:=h;refine⟨A,σ,ν,γ,?_,M,F,.refl ν γ p σ,fun j _ hj=>hj⟩
   simp only[dU,dG,I.check M hc,cdt]
 |cons s sc ih=>
  intro Pl Rl ν γ S p A σ S' p' hnd hfree hb I M F h;cases s with
  |freeze t=>
   simp only[gE]at h;split at h
   ·rename_i S1 p1 h1;obtain⟨ν1,M1,F1,A1⟩:=mO M F h1;obtain⟨A',σ',ν',γ',k1,k2,k3,k4,k5⟩:=ih Pl Rl ν1 γ S1 p1 A σ S' p' hnd hfree hb (I.qt A1 (.refl σ) fun _ _ _ _ _ _ h=>h) M1 F1 h
    exact⟨A',σ',ν',γ',k1,k2,k3,A1.trans k4,k5⟩
   ·cases h
  |app a i s=>
   simp only[dU]at hnd hfree⊢;obtain⟨ha,hfa⟩:=hfree a (by simp)
   obtain⟨hi,hfi⟩:=hfree i (by simp)
   obtain⟨hs,hfs⟩:=hfree s (by simp)
   simp only[List.nodup_cons,List.mem_cons,not_or]at hnd;simp only[gE]at h;have hopA:ops[a]?=some ops[a]:=Array.getElem?_eq_getElem ha;have hopI:ops[i]?=some ops[i]:=Array.getElem?_eq_getElem hi;have hopS:ops[s]?=some ops[s]:=Array.getElem?_eq_getElem hs;rw[hopA,hopI,hopS]at h;simp only at h;split at h
   ·rename_i S1 h1;cases hc0:Pl.all (jZ P p)&&(Pl.filter fun r=> !bit (ms.getD a 0) r.i).all (fun r=> !fT r.o)with
    |false=>rw[hc0,cdf]at h;cases h
    |true=>
     rw[hc0,cdt]at h;simp only[bjE]at hc0;obtain⟨hc,hmk⟩:=hc0;rw[List.all_eq_true]at hmk;obtain⟨u1,u2,σ1,σ2,γ2,q1,q2,q3,q4,q5,q6,q7,q8,q9,q10,q11,M2,F2,A2,qt1,qt2,q12,q13⟩:=aCt (ac:=ac) (base:=base) (iA:=a) (iI:=i) (iS:=s) M F hfa (by omega) (hops _ (by simp)) (hops _ (by simp)) (hops _ (by simp)) h1
     have hw: ∀{o:Oper} {A0:Slots},o.guard=none→wanted ops A0 o=true:=fun hg=>by simp only[wanted,hg]
     have hfree': ∀j∈dU sc,j<ops.size∧σ2.get (base+j)=none:=fun j hj=>by
      obtain⟨h2,h3⟩:=hfree j (by simp[hj])
      exact⟨h2,(q13 _ (fun e=>hnd.1.2.2 (by rw[show a=j by omega];exact hj)) h3).2⟩
     have If:=I.filter fun k=> !bit (ms.getD a 0) k
     have hck:(Rl.filter fun r=> !bit (ms.getD a 0) r.i).all (check P base σ1)=true:=by
      rw[List.all_eq_true];intro r hr;have hr0:=List.mem_filter.1 hr;have hall:=I.check M hc;rw[List.all_eq_true]at hall;have hcr:=hall r hr0.1;rcases If r hr with hst|⟨q,hq,T⟩
      ·have hk3:Keep ν g00 σ σ1:=by
        refine⟨qt1.vers,by rw[q12];exact nlR _,fun x hx=>?_,fun x hn cs m hg=>?_⟩
        ·cases hxx:σ.get x with
         |none=>rfl
         |some ob=>
          rcases qt1.get x ob hxx with e|⟨_,_,_,_,_,e⟩<;>rw[hx]at e<;>cases e
        ·rcases qt1.get x _ hg with e|⟨cs',m',b',e1,e2,e3⟩
         ·exact⟨m.tip,e,fun h=>h,fun _=>rfl⟩
         ·simp only[AObj.cells.injEq]at e1;obtain⟨rfl,rfl⟩:=e1;exact⟨b',e3,fun h=>(by rw[e2]at h;cases h),fun h=>(by cases h)⟩
       exact hst ν σ1 hk3 (.refl σ ν) fun x cs m hx=>by
        rcases qt1.get x _ hx with e|⟨cs',m',b',e1,e2,e3⟩
        ·exact⟨cs,m.tip,e⟩
        ·simp only[AObj.cells.injEq]at e1;obtain⟨rfl,rfl⟩:=e1;exact⟨_,b',e3⟩
      ·refine uR qt1 T.rd (fun ob hob b hb=>?_) hcr
       have hm:fT q.o=false:=by simpa using hmk q hq
       obtain⟨cs,rfl⟩:=T.box hm ob hob;rcases qt1.get b _ hb with e|⟨cs',m',b',e1,e2,_⟩
       ·exact e
       ·simp only[AObj.cells.injEq]at e1;obtain⟨rfl,rfl⟩:=e1;cases e2
     have I2:=(If.some A2 qt2).filter fun k=> !bit (ms.getD s 0) k
     obtain⟨A',σ',ν',γ',j1,j2,j3,j4,j5⟩:=ih _ _ ν γ2 _ p _ σ2 S' p' hnd.2.2.2 hfree' (Nat.le_trans hb A2.keep.next) I2 M2 F2 h
     refine⟨A',σ',ν',γ',?_,j2,j3,A2.trans j4,fun j hj hn=>j5 j hj (q13 j (by omega) hn).2⟩
     simp only[dG,hopA,hopI,hopS,hw q7,hw q8,hw q9,cdt,q4,q5,q6,I.check M hc,q1,q2,hck,q3];rw[q10];exact j1
   ·cases h
  |op i take=>
   simp only[dU]at hnd hfree⊢;rw[List.nodup_cons]at hnd;obtain⟨hi,hfi⟩:=hfree i (mhE ..);simp only[gE]at h;have hop:ops[i]?=some ops[i]:=Array.getElem?_eq_getElem hi;rw[hop]at h;simp only at h;simp only[dG,hop];have hoi:=hops ops[i] (by simp)
   generalize ops[i]=o at*;split at h
   ·rename_i hw;rw[jQ F hw,cdt];split at h
    ·rename_i v own S1 p1 h1;obtain⟨u,σ1,ν1,γ1,k1,k2,k3,k4,k5,k6⟩:=aFw hcall M F hfi (by omega) hoi h1
     have hfree': ∀j∈dU sc,j<ops.size∧σ1.get (base+j)=none:=fun j hj=>by
      obtain⟨h2,h3⟩:=hfree j (mtE _ hj);exact⟨h2,k6 _ (by omega) (fun e=>hnd.1 (by rw[show i=j by omega];exact hj)) h3⟩
     have hb':=Nat.le_trans hb k5.keep.next
     have fin: ∀{Pl' Rl'},Inv P base ν1 p1 σ1 Pl' Rl'→gE P pc ops ms sc Pl' (S1.put o.dst v own) p1=some (S',p')→
              ∃A' σ' ν' γ',dG P ac ops ms base (dU sc) Rl' (A.store o.dst u) σ1=some (A',σ')∧Mem ν' γ' p' σ'∧FR ν' γ' σ' S' A'∧Adv ν γ p σ ν' γ' p' σ'∧(∀j,j<base→σ.get j=none→σ'.get j=none):=by
      intro Pl' Rl' I' h';obtain⟨A',σ',ν',γ',j1,j2,j3,j4,j5⟩:=ih Pl' Rl' ν1 γ1 _ p1 _ σ1 S' p' hnd.2 hfree' hb' I' k3 k4 h';exact⟨A',σ',ν',γ',j1,j2,j3,k5.trans j4,fun j hj hn=>j5 j hj (k6 j (by omega) (by omega) hn)⟩
     cases hk:aW o with
     |pure=>
      simp only[aop,hk,mjE,pjE]at k1;obtain⟨u',hu',rfl,rfl⟩:=k1;have hu:iM P (ev A) o=some u':=by
       simp only[pop,hk,mjE,pjE]at h1;obtain⟨⟨v',own',S''⟩,hp,rfl,rfl,rfl,rfl⟩:=h1;unfold vV at hp;split at hp
       ·rename_i r hpp;obtain⟨r1,r2,r3⟩:=r;obtain⟨u2,_,h2,_⟩:=aCn F hoi hpp;unfold lW at hu';rw[h2]at hu'⊢;exact hu'
       ·cases hp
      simp only[hu];rw[show gF o=false by simp[gF,hk]]at h
      simp only[cdf,aAs hk S]at h;exact fin (I.qt k5 (.refl σ) fun _ _ _ _ _ _ h=>h) h
     |read=>
      simp only[aop,hk,mjE,pjE]at k1;obtain⟨u',hu,rfl,rfl⟩:=k1;simp only[hu];rw[show gF o=false by simp[gF,hk]]at h
      simp only[cdf]at h;have I':=I.qt k5 (.refl σ) fun _ _ _ _ _ _ h=>h
      have hpr: ∃own' p'',iW P p S o take=some (v,own',p''):=by
       simp only[pop,hk,mjE,pjE]at h1;obtain⟨⟨v',own',p''⟩,hp,rfl,rfl,rfl,rfl⟩:=h1;exact⟨_,_,hp⟩
      obtain⟨own',p'',hpr⟩:=hpr;cases hip:fI o S with
      |false=>
       rw[hip,cdf]at h;exact fin (I'.cons ((aFx M F hoi hpr hip hu).adv k5)) h
      |true=>
       rw[hip,cdt]at h;have hck:check P base σ ⟨i,o,A,u',none⟩=true:=by simp only[check,hu];exact fD u'
       refine fin (I'.cons2 ⟨fun id hid hd=>?_,rfl,fun _=>hck,fun _ ob hob=>(by cases hob),fun _=>?_,fun t a hoa=>?_⟩) h
       ·simp only[fI]at hip;split at hip
        ·rename_i t a hoa;simp only[cid,jI,hoa]at hid;have hok:aI P a=true:=by
          have:=pD hoi;rw[hoa]at this;simpa [Op.operands]using this
         have hpl: ∃v2,fY P p t (pev S a)=some v2:=by
          simp only[iW,hoa]at hpr;split at hpr
          ·exact⟨_,by assumption⟩
          ·cases hpr
         obtain⟨v2,hpl⟩:=hpl;have hvd:PI.vid (pev S a)=some id:=by
          cases hh:pev S a<;>rw[hh]at hid<;>simp only[aid]at hid<;>first|exact hid|cases hid
         obtain⟨b,hb1,hb2⟩:=R.vid M (aU F hok) hvd (by
          cases hh:pev S a<;>rw[hh]at hid hpl<;>simp only[aid]at hid<;>try cases hid
          simp only[fY]at hpl;split at hpl
          ·exact⟨_,by assumption,by simp⟩
          ·exact⟨_,by assumption,by simp⟩
          ·cases hpl)
         have hb3:=(k5.bx id b hb1 hd).2;refine⟨b,hb3,.inl ⟨rfl,t,a,?_⟩,hck⟩;rcases hb2 with⟨off,e⟩|⟨off,n,c,e⟩
         ·exact⟨off,hoa,e⟩
         ·exfalso;have hr:=aU F hok;rw[e]at hr;cases hh:pev S a<;>rw[hh]at hid hr<;>simp only[aid]at hid<;>try cases hid
          cases hr
        ·rename_i e;simp[aW,e]at hk
        ·rename_i e;simp[aW,e]at hk
        ·rename_i e;simp[aW,e]at hk
        ·cases hip
       ·simp only[fI]at hip;split at hip
        ·rename_i t a e;exact⟨t,a,e⟩
        ·rename_i e;simp[aW,e]at hk
        ·rename_i e;simp[aW,e]at hk
        ·rename_i e;simp[aW,e]at hk
        ·cases hip
       refine⟨rfl,rfl,?_,k2⟩;simp only at hoa;simp only[jI,hoa];have:aI P a=true:=by
        have:=pD hoi;rw[hoa]at this;simpa [Op.operands]using this
       exact(aU F this).keep k5.keep k5.mon
     |alloc=>
      simp only[aop,hk,mjE,pjE]at k1;obtain⟨⟨u',ob⟩,hu,rfl,rfl⟩:=k1;simp only[hu];rw[show gF o=false by simp[gF,hk]]at h
      simp only[cdf]at h;have I':=I.qt k5 (.put hfi) fun _ _ _ _ a ob h=>by rw[aH,if_neg (fun e=>by rw[e,hfi]at h;cases h)];exact h
      have hck:check P base (σ.put (base+i) ob) ⟨i,o,A,u',some ob⟩=true:=by
       simp only[check,aH,if_true];exact nS ob
      simp only[pop,hk,mjE,pjE]at h1;obtain⟨⟨v',own',p''⟩,hp,hv',rfl,rfl,rfl⟩:=h1;simp only at hv';subst hv';have hcl:(∃o2,p''.get p.next=some o2∧o2≠ .gone)→∀id,PI.vid v'=some id→(PI.vid v'=some id→id=p.next)→∃a,ν1 id=some (some a)∧Looks base ⟨i,o,A,u',some ob⟩ a∧check P base (σ.put (base+i) ob) ⟨i,o,A,u',some ob⟩=true:=by
       intro hg id hid hid2;have:=hid2 hid;subst this;obtain⟨b,hb1,hb2⟩:=R.vid k3 k2 hid hg;exact⟨b,hb1,.inr ⟨by simp,yU hu hb2⟩,hck⟩
      obtain⟨dst,op,ty,pos,af,g⟩:=o;cases op with
      |alloc t=>
       have hcl': ∀id,PI.vid v'=some id→id∉p''.wr→_:=fun id hid _=>hcl (by
        simp only[cA]at hp;split at hp<;>try cases hp
        exact⟨_,by rw[fL,if_pos rfl],by simp⟩) id hid (fun _=>by
        simp only[cA]at hp;split at hp<;>try cases hp
        simp only[PI.vid,ojE]at hid;exact hid.symm)
       refine fin (I'.cons2 (q:=⟨i,⟨dst,.alloc t,ty,pos,af,g⟩,jI ⟨dst,.alloc t,ty,pos,af,g⟩ S,v',false⟩) ⟨hcl',rfl,fun _=>hck,fun _ ob' hob=>?_,fun h=>(by cases h),fun t a hoa=>by cases hoa⟩) h
       simp only[ojE]at hob;subst hob;simp only[dZ]at hu;split at hu
       ·rename_i zz _;cases hc:zz.cells.toList.all aC with
        |false=>rw[hc,cdf]at hu;cases hu
        |true=>rw[hc,cdt]at hu;simp only[ojE,pjE]at hu;exact⟨_,hu.2.symm⟩
       ·cases hu
      |box t x=>
       have hcl': ∀id,PI.vid v'=some id→id∉p''.wr→_:=fun id hid _=>hcl (by
        simp only[cA]at hp;have hp:=fU hp;simp only[ojE,pjE]at hp;obtain⟨_,_,rfl⟩:=hp;exact⟨_,by rw[fL,if_pos rfl],by simp⟩) id hid (fun _=>by
        simp only[cA]at hp;have hp:=fU hp;simp only[ojE,pjE]at hp;obtain⟨rfl,_,_⟩:=hp;simp only[PI.vid,ojE]at hid;exact hid.symm)
       refine fin (I'.cons2 (q:=⟨i,⟨dst,.box t x,ty,pos,af,g⟩,jI ⟨dst,.box t x,ty,pos,af,g⟩ S,v',false⟩) ⟨hcl',rfl,fun _=>hck,fun _ ob' hob=>?_,fun h=>(by cases h),fun t a hoa=>by cases hoa⟩) h
       simp only[ojE]at hob;subst hob;simp only[dZ]at hu;cases hc:(ev A x).cells.toList.all one with
       |false=>rw[hc,cdf]at hu;cases hu
       |true=>rw[hc,cdt]at hu;simp only[ojE,pjE]at hu;exact⟨_,hu.2.symm⟩
      |makeSlice t l c=>
       have hmk: ∀id,PI.vid v'=some id→id=p.next∧∃o2,p''.get p.next=some o2∧o2≠ .gone:=by
        intro id hid;simp only[cA]at hp;split at hp<;>try cases hp
        split at hp<;>try cases hp
        split at hp<;>try cases hp
        have hp:=fU hp;rcases bif_or hp with hp|hp
        ·simp only[ojE,pjE]at hp;obtain⟨rfl,_,_⟩:=hp;simp only[PI.vid]at hid;cases hid
        ·have hp:=fU hp;simp only[ojE,pjE]at hp;obtain⟨rfl,_,rfl⟩:=hp;simp only[PI.vid,ojE]at hid;exact⟨hid.symm,_,by rw[fL,if_pos rfl],by simp⟩
       exact fin (I'.cons2 (q:=⟨i,⟨dst,.makeSlice t l c,ty,pos,af,g⟩,jI ⟨dst,.makeSlice t l c,ty,pos,af,g⟩ S,v',false⟩) ⟨fun id hid _=>hcl (hmk id hid).2 id hid (fun _=>(hmk id hid).1),rfl,fun _=>hck,fun hm=>(by cases hm),fun h=>(by cases h),fun t a hoa=>by cases hoa⟩) h
      |buildSlice t len parts=>
       refine fin (I'.cons ?_) h;have hob: ∃cs s,ob= .cells cs (bE s)∧u'= .slice (some ⟨base+i,0,none⟩) len len:=by
        simp only[dZ]at hu;split at hu
        ·split at hu
         ·rename_i s _;split at hu
          ·rename_i z _;cases hc:z.cells.toList.all aC&&Nat.ble (len*s) 1000000&&Nat.beq z.cells.size s&&Nat.ble 1 s with
           |false=>rw[hc,cdf]at hu;cases hu
           |true=>
            rw[hc,cdt]at hu;simp only[mjE,pjE]at hu;obtain⟨cs,_,h2,h3⟩:=hu;exact⟨_,s,h3.symm,h2.symm⟩
          ·cases hu
         ·cases hu
        ·cases hu
       obtain⟨cs,s,rfl,rfl⟩:=hob;have hvs:v'= .emp∨∃z es,v'= .sl z es:=by
        simp only[cA]at hp;split at hp
        ·split at hp
         ·rename_i s a z _ _ _;cases hc:Nat.ble (len*s) 1000000&&Nat.beq z.length s&&Nat.ble 1 s&&(a||Nat.beq s 1)with
          |false=>rw[hc,cdf]at hp;cases hp
          |true=>
           rw[hc,cdt]at hp;split at hp
           ·simp only[ojE,pjE]at hp;rw[←hp.1];exact mkSl_or _ _
           ·cases hp
         ·cases hp
        ·cases hp
       have hno:=slice_fz k2 hvs;intro ν'' σ'' kk mm zz;obtain⟨b,hb1,hb2,_⟩:=kk.row (base+i) hno cs (bE s) (by rw[aH,if_pos rfl])
       have hbf:=hb2 rfl;subst hbf;simp only[check,hb1];exact nS _
      |_=>simp only[cA]at hp;cases hp
     |eff=>
      have k1':aBr P ac σ (ev A) o (base+i)=some (u,σ1):=by simpa only[aop,hk]using k1
      rw[show gF o=true by simp[gF,hk]]at h
      simp only[cdt]at h;cases hc:Pl.all (jZ P p)with
      |false=>rw[hc,cdf]at h;cases h
      |true=>
       rw[hc,cdt]at h;simp only[I.check M hc,cdt,k1'];have If:=I.filter fun k=> !bit (ms.getD i 0) k
       cases ha:gY o with
       |false=>
        rw[ha]at h;simp only[Bool.false_and,cdf]at h;exact fin (If.stale k5) h
       |true=>
        rw[ha]at h;simp only[Bool.true_and]at h;have hqt:Qt σ σ1:=by
         obtain⟨dst,op,ty,pos,af,g⟩:=o;cases op<;>simp only[gY]at ha<;>(try cases ha)
         rename_i c;obtain⟨callee,cargs,ats⟩:=c;cases callee with
         |builtin b=>
          cases b<;>(try cases ha)
          simp only[aBr]at k1';split at k1'
          ·exact aEL hfi k1'
          ·cases k1'
         |_=>cases ha
        exact fin (If.some k5 hqt) h
    ·cases h
   ·rename_i hw;rw[jQ F hw,cdf];obtain⟨γ1,M1,F1,A1⟩:=aFy M F o.dst;obtain⟨A',σ',ν',γ',j1,j2,j3,j4,j5⟩:=ih Pl Rl ν γ1 _ p _ σ S' p' hnd.2 (fun j hj=>hfree j (mtE _ hj)) hb I M1 F1 h
    exact⟨A',σ',ν',γ',j1,j2,j3,A1.trans j4,j5⟩
   ·cases h
end
end Go.PI
namespace Go.PI
open Go.AI
theorem bT{n:Nat}{xs:List PV}:eQ n xs=true↔∀x∈xs,below n x=true:=by
 induction xs with
 |nil=>simp[eQ]
 |cons x xs ih=>simp[eQ,ih]
theorem vU{n:Nat}{x:PV}(h:x.pur=true):below n x=true:=by cases x<;>first|rfl|simp[PV.pur]at h
theorem aCZ{es:List PV}(h: ∀e∈es,e.cells.all PV.pur=true){i:Nat}{x:PV}(hx:(eA es)[i]?=some x):x.pur=true:=by
 have:=dD hx;simp only[eA,List.mem_flatMap]at this;obtain⟨e,he,hx⟩:=this;exact(List.all_eq_true.1 (h e he)) x hx
section
variable{P:Program}{ν ν' ν'':Nu}{γ γ1 γ':Ga}{σ σ':St}{S:PS}{A:Slots}
theorem lP{α:Type}{us:List α}{xs:List PV}(hl:xs.length=us.length){x:PV}(hx:x∈xs): ∃(i:Nat) (u:α),xs[i]?=some x∧us[i]?=some u:=by
 obtain⟨i,hi,rfl⟩:=List.mem_iff_getElem.1 hx;exact⟨i,us[i],geG hi,geG (by omega)⟩
theorem R.restrict{n:Nat}(hν: ∀k,k<n→ν'' k=ν' k)(hsub: ∀k a,ν'' k=some (some a)→ν' k=some (some a)){x:PV}{u:Value}(r:R ν' σ x u):PI.below n x=true→R ν'' σ x u:=by
 have hfz: ∀{id cs m},Fz ν' σ id cs m→Fz ν'' σ id cs m:=fun h=>⟨h.1,fun k hk=>h.2 k (hsub k _ hk)⟩
 induction r with
 |und u=>intro _;exact .und u
 |v x h=>intro _;exact .v x h
 |str s=>intro _;exact .str s
 |agg xs us hl _ ih=>
  intro hb;simp only[PI.below]at hb;rw[bT]at hb;exact .agg xs us hl fun i x u hx hu=>ih i x u hx hu (hb x (dD hx))
 |tup xs us hl _ ih=>
  intro hb;simp only[PI.below]at hb;rw[bT]at hb;exact .tup xs us hl fun i x u hx hu=>ih i x u hx hu (hb x (dD hx))
 |nil=>intro _;exact .nil
 |emp0=>intro _;exact .emp0
 |emp1 id off c rcs m hr=>intro _;exact .emp1 id off c rcs m (hfz hr)
 |emp2 b o s c=>intro _;exact .emp2 b o s c
 |sl z es id off c rcs m hz hs hr hmz hb _ ih=>
  intro _;exact .sl z es id off c rcs m hz hs (hfz hr) hmz hb fun i x u hx hu=>ih i x u hx hu (vU (aCZ (fun e he=>(hs e he).2) hx))
 |pin z es i off id base rcs m hs hr hb _ ih=>
  intro _;exact .pin z es i off id base rcs m hs (hfz hr) hb fun i x u hx hu=>ih i x u hx hu (vU (aCZ (fun e he=>(hs e he).2) hx))
 |ptr id off a h=>
  intro hb;simp only[PI.below,gL,djE]at hb;exact .ptr id off a (by rw[hν id hb];exact h)
 |ptr0 id off a h=>
  intro hb;simp only[PI.below,gL,djE]at hb;exact .ptr0 id off a (by rw[hν id hb];exact h)
 |rs id off len c a h=>
  intro hb;simp only[PI.below,gL,djE]at hb;exact .rs id off len c a (by rw[hν id hb];exact h)
 |rs0 id off len c a h=>
  intro hb;simp only[PI.below,gL,djE]at hb;exact .rs0 id off len c a (by rw[hν id hb];exact h)
 |fn f xs ys us vs hl _ hl' _ ih ih'=>
  intro hb;simp only[PI.below,bjE]at hb;rw[bT,bT]at hb;exact .fn f xs ys us vs hl (fun i x u hx hu=>ih i x u hx hu (hb.1 x (dD hx))) hl' fun i x u hx hu=>ih' i x u hx hu (hb.2 x (dD hx))
theorem R.low{n:Nat}(hν: ∀k y,ν k=some y→k<n){x:PV}{u:Value}(r:R ν σ x u):PI.below n x=true:=by
 induction r with
 |agg xs us hl _ ih=>
  simp only[PI.below];rw[bT];intro x hx;obtain⟨i,u,h1,h2⟩:=lP hl hx;exact ih i x u h1 h2
 |tup xs us hl _ ih=>
  simp only[PI.below];rw[bT];intro x hx;obtain⟨i,u,h1,h2⟩:=lP hl hx;exact ih i x u h1 h2
 |ptr id off a h=>simp only[PI.below,gL,djE];exact hν _ _ h
 |ptr0 id off a h=>simp only[PI.below,gL,djE];exact hν _ _ h
 |rs id off len c a h=>simp only[PI.below,gL,djE];exact hν _ _ h
 |rs0 id off len c a h=>simp only[PI.below,gL,djE];exact hν _ _ h
 |fn f xs ys us vs hl _ hl' _ ih ih'=>
  simp only[PI.below,bjE];rw[bT,bT];refine⟨fun x hx=>?_,fun x hx=>?_⟩
  ·obtain⟨i,u,h1,h2⟩:=lP hl hx;exact ih i x u h1 h2
  ·obtain⟨i,u,h1,h2⟩:=lP hl' hx;exact ih' i x u h1 h2
 |_=>rfl
theorem Ow.restrict{k:K}(hsub: ∀k a,ν'' k=some (some a)→ν' k=some (some a)){x:PV}{u:Value}(o:Ow ν' γ σ k x u):Ow ν'' γ σ k x u:=by
 have hfz: ∀{id cs m},Fz ν' σ id cs m→Fz ν'' σ id cs m:=fun h=>⟨h.1,fun k hk=>h.2 k (hsub k _ hk)⟩
 cases o with
 |nil=>exact .nil x
 |exact _ id off len rcs m hr=>exact .exact x id off len rcs m (hfz hr)
 |zer _ b o=>exact .zer x b o
 |tip z es id off c rcs m hr ht hw hg hb hk=>exact .tip z es id off c rcs m (hfz hr) ht hw hg hb hk
theorem ObjR.restrict{n id:Nat}(hν: ∀k,k<n→ν'' k=ν' k)(hsub: ∀k a,ν'' k=some (some a)→ν' k=some (some a))(hid:id<n){o:kW}(h:ObjR ν' γ σ id o)(hb:lV n o=true):ObjR ν'' γ σ id o:=by
 cases o with
 |box cs=>
  obtain⟨a,us,h1,h2,h3,h4⟩:=h;simp only[lV,List.all_eq_true]at hb;refine⟨a,us,by rw[hν id hid];exact h1,h2,h3,fun i x b u hx hu=>?_⟩
  obtain⟨h5,h6,h7⟩:=h4 i x b u hx hu;exact⟨h5.restrict hν hsub (hb _ (dD hx)),h6,fun hb'=>(h7 hb').restrict hsub⟩
 |row z ag cs=>
  obtain⟨a,us,h1,h2,h3,h5,h4⟩:=h;simp only[lV]at hb;rw[bT]at hb;exact⟨a,us,by rw[hν id hid];exact h1,h2,h3,h5,fun i x u hx hu=>(h4 i x u hx hu).restrict hν hsub (hb x (dD hx))⟩
 |map es=>exact h
 |gone=>show ν'' id=some none;rw[hν id hid];exact h
theorem ObjR.low{n id:Nat}(hν: ∀k y,ν k=some y→k<n){o:kW}(h:ObjR ν γ σ id o):lV n o=true:=by
 cases o with
 |box cs=>
  obtain⟨a,us,h1,h2,h3,h4⟩:=h;simp only[lV,List.all_eq_true];intro c hc;obtain⟨i,hi,rfl⟩:=List.mem_iff_getElem.1 hc;have hx:cs[i]?=some (cs[i].1,cs[i].2):=geG hi;have hu:us[i]?=some (us[i]'(by omega)):=geG _
  exact(h4 i _ _ _ hx hu).1.low hν
 |row z ag cs=>
  obtain⟨a,us,h1,h2,h3,h5,h4⟩:=h;simp only[lV];rw[bT];intro x hx;obtain⟨i,u,e1,e2⟩:=lP h3.symm hx;exact(h4 i x u e1 e2).low hν
 |map es=>exact h.elim
 |gone=>rfl
theorem bS{old d:List Nat}{k:Nat}:k∈old.foldr ins d↔k∈old∨k∈d:=by
 induction old with
 |nil=>simp
 |cons x old ih=>simp only[List.foldr_cons,fZ,ih,List.mem_cons,or_assoc]
theorem pR{mem q:Tr kW}{old:List Nat}(hf: ∀id∈old,q.get id≠none)(k:Nat):(old.foldr (back q) mem).get k=if k∈old then q.get k else mem.get k:=by
 induction old with
 |nil=>simp
 |cons x old ih=>
  simp only[List.foldr_cons];have ih:=ih fun id hid=>hf id (mtE _ hid)
  cases hx:q.get x with
  |none=>exact absurd hx (hf x (mhE ..))
  |some o=>
   simp only[back,hx,Tr.get_set];by_cases e:k=x
   ·subst e;simp[hx]
   ·rw[if_neg e,ih];by_cases e2:k∈old
    ·rw[if_pos e2,if_pos (mtE _ e2)]
    ·rw[if_neg e2,if_neg (by simp[e,e2])]
theorem aFA{p p':PSt}(M:Mem ν γ p σ)(M':Mem ν' γ' p' σ')(adv:Adv ν γ (st0 p) σ ν' γ' p' σ'){v:PV}{u:Value}{own:Bool}(r:R ν' σ' v u)(ho:own=true→Ow ν' γ' σ' .hand v u):
    ∃ν'',R ν'' σ' v u∧(own=true→Ow ν'' γ' σ' .hand v u)∧Mem ν'' γ' (settle p v p') σ'∧Adv ν γ p σ ν'' γ' (settle p v p') σ':=by
 have hn:p.next≤p'.next:=adv.dp.next
 have hmem: ∀k,k<p.next→k∉p'.dirty→p'.mem.get k=p.mem.get k:=adv.dp.mem
 unfold settle;cases hc:below p.next v&&(p'.dirty.filter fun id=>Nat.blt id p.next).all (nZ p.next p'.mem)with
 |false=>
  simp only[cdf];refine⟨ν',r,ho,⟨M'.le,M'.lt,M'.inj,M'.live,M'.get,M'.free,M'.ver⟩,⟨adv.keep,adv.mon,adv.out,⟨hn,fun id hid=>bS.2 (.inr hid),fun id hid=>bS.2 (.inr hid),fun k hk hd=>?_⟩,adv.rz,fun id a hi hd=>adv.bx id a hi fun hh=>hd (bS.2 (.inl (List.mem_filter.2 ⟨hh,by rw[gL];simpa using M.le _ _ hi⟩)))⟩⟩
  refine hmem k hk fun hh=>hd (bS.2 (.inl ?_))
  rw[List.mem_filter];exact⟨hh,by rw[gL];simpa using hk⟩
 |true=>
  simp only[cdt];simp only[bjE,List.all_eq_true]at hc;obtain⟨hv,hold⟩:=hc;have hmo: ∀{k},k∈(p'.dirty.filter fun id=>Nat.blt id p.next)↔k∈p'.dirty∧k<p.next:=by
   intro k;rw[List.mem_filter,gL];simp
  generalize hO:(p'.dirty.filter fun id=>Nat.blt id p.next)=old at*
  have hf: ∀id∈old,p'.mem.get id≠none:=fun id hid h=>by
   have:=hold id hid;simp only[nZ,h]at this;cases this
  have hget: ∀k,PSt.get ⟨old.foldr (back p'.mem) p.mem,p.next,old.foldr ins p.dirty,(p'.wr.filter fun id=>Nat.blt id p.next).foldr ins p.wr⟩ k=if k<p.next then p'.mem.get k else none:=by
   intro k;simp only[PSt.get,gL,Bool.cond_decide];by_cases hk:k<p.next
   ·simp only[hk,if_true];rw[pR hf];by_cases e:k∈old
    ·rw[if_pos e]
    ·rw[if_neg e];exact(hmem k hk fun hh=>e (hmo.2 ⟨hh,hk⟩)).symm
   ·simp[hk]
  have hp': ∀k,k<p.next→p'.get k=p'.mem.get k:=by
   intro k hk;simp only[PSt.get,gL,Bool.cond_decide];rw[if_pos (by omega)]
  have hνn: ∀k,k<p.next→(fun k=>if k<p.next then ν' k else none) k=ν' k:=fun k hk=>by simp[hk]
  have hsub: ∀k a,(fun k=>if k<p.next then ν' k else none) k=some (some a)→ν' k=some (some a):=fun k a h=>by
   by_cases hk:k<p.next
   ·simpa [hk]using h
   ·simp[hk]at h
  refine⟨fun k=>if k<p.next then ν' k else none,r.restrict hνn hsub hv,fun h=>(ho h).restrict hsub,⟨fun k x hk=>?_,fun k a hk=>M'.lt k a (hsub k a hk),fun i j a hi hj=>M'.inj i j a (hsub i a hi) (hsub j a hj),fun k a hk=>?_,fun k o hk=>?_,M'.free,M'.ver⟩,
   ⟨adv.keep,⟨fun id x hx=>?_,fun id a ha=>adv.mon.2 id a (hsub id a ha)⟩,adv.out,⟨nlR _,fun id hid=>bS.2 (.inr hid),fun id hid=>bS.2 (.inr hid),fun k hk hd=>?_⟩,adv.rz,fun id a hi hd=>by
    have hlt:=M.le _ _ hi;obtain⟨e1,e2⟩:=adv.bx id a hi fun hh=>hd (bS.2 (.inl (List.mem_filter.2 ⟨hh,by rw[gL];simpa using hlt⟩)))
    exact⟨e1,by show(if id<p.next then ν' id else none)=_;rw[if_pos hlt];exact e2⟩⟩⟩
  ·by_cases h:k<p.next
   ·exact h
   ·simp[h]at hk
  ·have h1:=hsub k a hk;have hkn:k<p.next:=by
    by_cases h:k<p.next
    ·exact h
    ·simp[h]at hk
   obtain⟨o,ho'⟩:=M'.live k a h1;rw[hp' k hkn]at ho';exact⟨o,by rw[hget,if_pos hkn];exact ho'⟩
  ·rw[hget]at hk;by_cases hkn:k<p.next
   ·rw[if_pos hkn]at hk;have hobj:=M'.get k o (by rw[hp' k hkn];exact hk)
    refine hobj.restrict hνn hsub hkn ?_;by_cases e:k∈old
    ·have:=hold k e;simp only[nZ,hk]at this;exact this
    ·have h0:p.mem.get k=some o:=by rw[←hmem k hkn fun hh=>e (hmo.2 ⟨hh,hkn⟩)];exact hk
     have:p.get k=some o:=by
      simp only[PSt.get,gL,Bool.cond_decide];rw[if_pos hkn];exact h0
     exact(M.get k o this).low M.le
   ·rw[if_neg hkn]at hk;cases hk
  ·have hid:=M.le id x hx;rcases adv.mon.1 id x hx with h1|h1
   ·left;show(if id<p.next then ν' id else none)=some x;rw[if_pos hid];exact h1
   ·right;show(if id<p.next then ν' id else none)=some none;rw[if_pos hid];exact h1
  ·rw[pR hf];rw[if_neg fun e=>hd (bS.2 (.inl e))]
end
end Go.PI
namespace Go.PI
open Go.AI
def vE:PC→Prop
 | .region _ ops draw ms sc=>if draw then ms=dV ops.toList []∧dU sc=rC ops ms else dU sc=List.range ops.size
 | .seq a b=>vE a∧vE b
 | .cond _ a b=>vE a∧vE b
 | .block _ c=>vE c
 | .loop c=>vE c
 | .scope c=>vE c
 | .drop _ c=>vE c
 | .ice _ c=>vE c
 |_=>True
theorem aD1{ops:Array Oper}{ms:List Nat}: ∀{l done:List Nat},topo ops ms l done=true→l.Nodup∧(∀i∈l,i<ops.size∧i∉done):=by
 intro l;induction l with
 |nil=>intro done _;exact⟨List.nodup_nil,fun i hi=>by simp at hi⟩
 |cons i l ih=>
  intro done h;simp only[topo,bjE]at h;obtain⟨⟨⟨⟨h1,h2⟩,h3⟩,h4⟩,h5⟩:=h;obtain⟨h6,h7⟩:=ih h5;have hi:i<ops.size:=by rw[gL]at h1;simpa using h1
  have hd:i∉done:=by simpa using h2
  refine⟨List.nodup_cons.2 ⟨fun hh=>(h7 i hh).2 (mhE ..),h6⟩,fun j hj=>?_⟩
  rcases List.mem_cons.1 hj with rfl|hj
  ·exact⟨hi,hd⟩
  ·exact⟨(h7 j hj).1,fun hh=>(h7 j hj).2 (mtE _ hh)⟩
section
variable{P:Program}{ν ν' ν'':Nu}{γ γ1 γ':Ga}{σ σ':St}{S:PS}{A:Slots}
theorem tW{ops:Array Oper}(h:tX ops=true):(rC ops (dV ops.toList [])).Nodup∧∀i∈rC ops (dV ops.toList []),i<ops.size∧i∉([]:List Nat):=by
 unfold tX at h;split at h
 ·simp only[wJ,bjE]at h;exact aD1 h.1
 ·cases h
theorem aGO{ops:Array Oper}{o:Option (PS×PSt)}{r:PS×PSt}(h:fitP ops o=some r):o=some r∧aAm ops r.1 r.2=true:=by
 unfold fitP at h;split at h
 ·rename_i r';cases hb:aAm ops r'.1 r'.2 with
  |true=>rw[hb,cdt]at h;cases h;exact⟨rfl,hb⟩
  |false=>rw[hb]at h;cases h
 ·cases h
theorem okTw_ok{ops:Array Oper}{p:PSt}(M:Mem ν γ p σ)(F:FR ν γ σ S A)(h:aAm ops S p=true):okTw ops A σ=true:=by
 unfold aAm at h;unfold okTw;split at h
 ·rename_i e;rw[e]
 ·rename_i s t e;rw[e];simp only;have r1:=(F s).1;have r2:=(F t).1;split at h
  ·rename_i es i off id o2 e1 e2;rw[e1]at r1;rw[e2]at r2;split at h
   ·rename_i cs hg;obtain⟨a,us,n1,n2,_⟩:=M.get _ _ hg;show(match A.at s,A.at t with
     | .pointer (some ⟨i,_,none⟩),.pointer (some ⟨j,_,none⟩)=> !Nat.beq i j&&(match σ.get j with|some (.cells _ m)=>m.grp.isNone|_=>false)
     |_,_=>false)=true
    generalize A.at s=u1 at*;generalize A.at t=u2 at*;cases r1 with
    |pin z _ _ _ id' base rcs m hs hr hb h=>
     cases r2 with
     |ptr _ _ a' hν=>
      rw[hν]at n1;simp only[ojE]at n1;subst n1;have:id'≠a':=fun e=>hr.2 _ (e▸hν)
      simp only[cG,decide_eq_false this,n2,boxMeta,Option.isNone_none,Bool.not_false,Bool.and_self]
     |ptr0 _ _ a' hν=>rw[hν]at n1;cases n1
   ·cases h
  ·cases h
 ·cases h
theorem pJ(n:Nat):Keep ν fM σ {σ with next:=σ.next+n}:=⟨rfl,Nat.le_add_right _ _,fun _ h=>h,fun a _ cs m h=>⟨m.tip,h,fun h=>h,fun _=>rfl⟩⟩
theorem Mem.more{p:PSt}(M:Mem ν γ p σ)(n:Nat):Mem ν γ p {σ with next:=σ.next+n}:=
 ⟨M.le,fun id a h=>Nat.lt_of_lt_of_le (M.lt id a h) (Nat.le_add_right _ _),M.inj,M.live,fun id o h=>(M.get id o h).keep (γ1:=fM) (pJ n) (.refl σ ν) rfl (fun _ _=>rfl) fun i off hi _=>⟨rfl,hi⟩,
  fun a ha=>M.free a (Nat.le_trans (Nat.le_add_right _ _) ha),M.ver⟩
theorem FR.more(F:FR ν γ σ S A)(n:Nat):FR ν γ {σ with next:=σ.next+n} S A:=F.keep (γ1:=fM) (pJ n) (.refl σ ν) fun i t hi _=>⟨rfl,hi⟩
theorem Adv.more{p:PSt}(n:Nat):Adv ν γ p σ ν γ p {σ with next:=σ.next+n}:=⟨(pJ n).weak fun _ _=>rfl,.refl σ ν,.refl σ γ,.refl p,fun a cs m h=>⟨cs,m.tip,h⟩,fun _ _ h _=>⟨rfl,h⟩⟩
theorem Mem.cln{p:PSt}(M:Mem ν γ p σ):Mem ν γ (PI.cln p) σ:=⟨M.le,M.lt,M.inj,M.live,M.get,M.free,M.ver⟩
theorem Mem.dty{p':PSt}(M:Mem ν γ p' σ)(p:PSt):Mem ν γ (PI.dty p p') σ:=⟨M.le,M.lt,M.inj,M.live,M.get,M.free,M.ver⟩
theorem Adv.dty{p p':PSt}(h:Adv ν γ (PI.cln p) σ ν' γ' p' σ'):Adv ν γ p σ ν' γ' (PI.dty p p') σ':=
 ⟨h.keep,h.mon,h.out,⟨h.dp.next,fun id hi=>h.dp.dirty id hi,fun id hi=>bS.2 (.inr hi),fun k hk hd=>h.dp.mem k hk hd⟩,h.rz,fun id a hi hd=>h.bx id a hi fun hh=>hd (bS.2 (.inl hh))⟩
theorem aD8{pc:gD}{ac:FuncId→Array Value→St→Option (Value×St)}(hcall:jL pc ac){N id:Nat}{ops:Array Oper}{draw:Bool}{ms:List Nat}{sc:List aDJ}{p p':PSt}{S':PS}
    (hok:cJ P N (.region id ops draw)=true) (hsc:vE (.region id ops draw ms sc)) (M:Mem ν γ p σ) (F:FR ν γ σ S A)
    (h:(bif draw then(fitP ops (gE P pc ops ms sc [] S (cln p))).map (fun r=>(r.1,dty p r.2))else zQ P pc ops sc S p)=some (S',p')):
    ∃A' σ' ν' γ',dL P ac ops draw A σ=some (A',σ')∧Mem ν' γ' p' σ'∧FR ν' γ' σ' S' A'∧Adv ν γ p σ ν' γ' p' σ'∧(∀j,j<σ.next→σ.get j=none→σ'.get j=none):=by
 simp only[cJ,bjE,List.all_eq_true,Bool.or_eq_true,Bool.not_eq_true']at hok;obtain⟨hops,hdr⟩:=hok;have hops': ∀o∈ops.toList,o.op.operands.all (aI P)=true:=fun o ho=>by
  have:=hops o ho;simp only[lJ,bjE]at this;exact this.2
 unfold dL;cases draw with
 |false=>
  simp only[cdf]at h⊢;simp only[vE]at hsc;obtain⟨A',σ',ν',γ',h1,h2,h3,h4,h5⟩:=runP_ok hcall (base:=σ.next) hops' sc 0 ν γ S p A {σ with next:=σ.next+ops.size} S' p' (by simpa [List.range_eq_range']using hsc) (Nat.zero_le _) (nlR _)
   (fun j _ hj=>M.free _ (Nat.le_add_right _ _)) (M.more _) (F.more _) h
  exact⟨A',σ',ν',γ',h1,h2,h3,(Adv.more _).trans h4,fun j hj hn=>h5 j hj hn⟩
 |true=>
  simp only[cdt]at h⊢;simp only[vE,if_true]at hsc;obtain⟨rfl,hsc⟩:=hsc;have hD:=hdr.resolve_left (by simp)
  obtain⟨hnd,hlt⟩:=tW hD;simp only[mjE,pjE]at h;obtain⟨⟨S2,p2⟩,h,rfl,rfl⟩:=h;obtain⟨h,htw⟩:=aGO h;obtain⟨A',σ',ν',γ',h1,h2,h3,h4,h5⟩:=runDP_ok hcall (base:=σ.next) hops' sc [] [] ν γ S (cln p) A {σ with next:=σ.next+ops.size} S2 p2 (by rw[hsc];exact hnd)
   (fun j hj=>⟨(hlt j (by rw[←hsc];exact hj)).1,M.free _ (Nat.le_add_right _ _)⟩) (nlR _) (fun r hr=>by simp at hr) (M.cln.more _) (F.more _) h
  rw[hsc]at h1;refine⟨A',σ',ν',γ',?_,h2.dty p,h3,(Adv.more _).trans h4.dty,fun j hj hn=>h5 j hj hn⟩
  rw[h1];simp only[fitTw,okTw_ok h2 h3 htw,cdt]
def ExOK(P:Program)(ac:FuncId→Array Value→St→Option (Value×St))(L:Nat)(run:PS→PSt→Option (Fl×PS×PSt))(arun:Slots→St→Option (Fl×Slots×St)):Prop:=
 ∀(ν:Nu) (γ:Ga) (S:PS) (p:PSt) (A:Slots) (σ:St) (fl:Fl) (S':PS) (p':PSt),Mem ν γ p σ→FR ν γ σ S A→run S p=some (fl,S',p')→
  ∃A' σ' ν' γ',arun A σ=some (fl,A',σ')∧Mem ν' γ' p' σ'∧FR ν' γ' σ' S' A'∧Adv ν γ p σ ν' γ' p' σ'∧(∀j,j<σ.next→σ.get j=none→σ'.get j=none)
theorem iterP_ok{ac:FuncId→Array Value→St→Option (Value×St)}{L:Nat}{run:PS→PSt→Option (Fl×PS×PSt)}{arun:Slots→St→Option (Fl×Slots×St)}(h:ExOK P ac L run arun): ∀n,ExOK P ac L (uC run n) (iter arun n):=by
 intro n;induction n with
 |zero=>intro ν γ S p A σ fl S' p' M F hr;simp only[uC]at hr;cases hr
 |succ n ih=>
  intro ν γ S p A σ fl S' p' M F hr;simp only[uC]at hr;simp only[iter];cases hb:run S p with
  |none=>rw[hb]at hr;cases hr
  |some r=>
   obtain⟨f1,S1,p1⟩:=r;rw[hb]at hr;obtain⟨A1,σ1,ν1,γ1,k1,k2,k3,k4,k5⟩:=h ν γ S p A σ f1 S1 p1 M F hb;rw[k1];cases f1 with
   |normal=>
    simp only at hr⊢;obtain⟨A',σ',ν',γ',j1,j2,j3,j4,j5⟩:=ih ν1 γ1 S1 p1 A1 σ1 fl S' p' k2 k3 hr;exact⟨A',σ',ν',γ',j1,j2,j3,k4.trans j4,fun j hj hn=>j5 j (Nat.lt_of_lt_of_le hj k4.keep.next) (k5 j hj hn)⟩
   |exit m=>
    simp only[ojE,pjE]at hr;obtain⟨rfl,rfl,rfl⟩:=hr;exact⟨A1,σ1,ν1,γ1,rfl,k2,k3,k4,k5⟩
   |ret=>
    simp only[ojE,pjE]at hr;obtain⟨rfl,rfl,rfl⟩:=hr;exact⟨A1,σ1,ν1,γ1,rfl,k2,k3,k4,k5⟩
theorem execP_ok{pc:gD}{ac:FuncId→Array Value→St→Option (Value×St)}(hcall:jL pc ac)(L N:Nat): ∀(c:PC),vE c→cJ P N (cM c)=true→ExOK P ac L (cL P pc L c) (bG P ac L (cM c)):=by
 intro c;induction c with
 |skip=>
  intro _ _ ν γ S p A σ fl S' p' M F h;simp only[cL,ojE,pjE]at h;obtain⟨rfl,rfl,rfl⟩:=h;exact⟨A,σ,ν,γ,rfl,M,F,.refl ν γ _ σ,fun j _ h=>h⟩
 |label l=>
  intro _ _ ν γ S p A σ fl S' p' M F h;simp only[cL,ojE,pjE]at h;obtain⟨rfl,rfl,rfl⟩:=h;exact⟨A,σ,ν,γ,rfl,M,F,.refl ν γ _ σ,fun j _ h=>h⟩
 |region id ops draw ms sc=>
  intro hk hok ν γ S p A σ fl S' p' M F h;simp only[cL,mjE,pjE]at h;obtain⟨⟨S1,p1⟩,hr,rfl,rfl,rfl⟩:=h;obtain⟨A',σ',ν',γ',h1,h2,h3,h4,h5⟩:=aD8 hcall hok hk M F hr;exact⟨A',σ',ν',γ',by simp only[cM,bG,h1];rfl,h2,h3,h4,h5⟩
 |seq a b iha ihb=>
  intro hk hok ν γ S p A σ fl S' p' M F h;simp only[cM,cJ,bjE]at hok;simp only[cL]at h;simp only[cM,bG];cases hb:cL P pc L a S p with
  |none=>rw[hb]at h;cases h
  |some r=>
   obtain⟨f1,S1,p1⟩:=r;rw[hb]at h;obtain⟨A1,σ1,ν1,γ1,k1,k2,k3,k4,k5⟩:=iha hk.1 hok.1 ν γ S p A σ f1 S1 p1 M F hb;rw[k1];cases f1 with
   |normal=>
    simp only at h⊢;obtain⟨A',σ',ν',γ',j1,j2,j3,j4,j5⟩:=ihb hk.2 hok.2 ν1 γ1 S1 p1 A1 σ1 fl S' p' k2 k3 h;exact⟨A',σ',ν',γ',j1,j2,j3,k4.trans j4,fun j hj hn=>j5 j (Nat.lt_of_lt_of_le hj k4.keep.next) (k5 j hj hn)⟩
   |exit m=>
    simp only[ojE,pjE]at h;obtain⟨rfl,rfl,rfl⟩:=h;exact⟨A1,σ1,ν1,γ1,rfl,k2,k3,k4,k5⟩
   |ret=>
    simp only[ojE,pjE]at h;obtain⟨rfl,rfl,rfl⟩:=h;exact⟨A1,σ1,ν1,γ1,rfl,k2,k3,k4,k5⟩
 |cond x a b iha ihb=>
  intro hk hok ν γ S p A σ fl S' p' M F h;simp only[cM,cJ,bjE]at hok;simp only[cL]at h;have hx:=aU F hok.1.1;split at h
  ·rename_i e;rw[e]at hx;obtain⟨A',σ',ν',γ',k1,k2⟩:=iha hk.1 hok.1.2 ν γ S p A σ fl S' p' M F h;refine⟨A',σ',ν',γ',?_,k2⟩;simp only[cM,bG];generalize ev A x=w at hx;cases hx;exact k1
  ·rename_i e;rw[e]at hx;obtain⟨A',σ',ν',γ',k1,k2⟩:=ihb hk.2 hok.2 ν γ S p A σ fl S' p' M F h;refine⟨A',σ',ν',γ',?_,k2⟩;simp only[cM,bG];generalize ev A x=w at hx;cases hx;exact k1
  ·cases h
 |block id c ih=>
  intro hk hok ν γ S p A σ fl S' p' M F h;simp only[cM,cJ]at hok;simp only[cL]at h;simp only[cM,bG];cases hb:cL P pc L c S p with
  |none=>rw[hb]at h;cases h
  |some r=>
   obtain⟨f1,S1,p1⟩:=r;rw[hb]at h;obtain⟨A1,σ1,ν1,γ1,k1,k2,k3,k4,k5⟩:=ih hk hok ν γ S p A σ f1 S1 p1 M F hb;rw[k1];cases f1 with
   |normal=>
    simp only[ojE,pjE]at h;obtain⟨rfl,rfl,rfl⟩:=h;exact⟨A1,σ1,ν1,γ1,rfl,k2,k3,k4,k5⟩
   |exit m=>
    simp only at h⊢;cases he:Nat.beq m id with
    |true=>
     simp only[he,cdt,ojE,pjE]at h⊢;obtain⟨rfl,rfl,rfl⟩:=h;exact⟨A1,σ1,ν1,γ1,⟨rfl,rfl,rfl⟩,k2,k3,k4,k5⟩
    |false=>
     simp only[he,cdf,ojE,pjE]at h⊢;obtain⟨rfl,rfl,rfl⟩:=h;exact⟨A1,σ1,ν1,γ1,⟨rfl,rfl,rfl⟩,k2,k3,k4,k5⟩
   |ret=>
    simp only[ojE,pjE]at h;obtain⟨rfl,rfl,rfl⟩:=h;exact⟨A1,σ1,ν1,γ1,rfl,k2,k3,k4,k5⟩
 |loop c ih=>
  intro hk hok;simp only[cM,cJ]at hok;exact iterP_ok (ih hk hok) L
 |exit id=>
  intro _ _ ν γ S p A σ fl S' p' M F h;simp only[cL,ojE,pjE]at h;obtain⟨rfl,rfl,rfl⟩:=h;exact⟨A,σ,ν,γ,rfl,M,F,.refl ν γ _ σ,fun j _ h=>h⟩
 |ret=>
  intro _ _ ν γ S p A σ fl S' p' M F h;simp only[cL,ojE,pjE]at h;obtain⟨rfl,rfl,rfl⟩:=h;exact⟨A,σ,ν,γ,rfl,M,F,.refl ν γ _ σ,fun j _ h=>h⟩
 |scope c ih=>
  intro hk hok;simp only[cM,cJ]at hok;exact ih hk hok
 |other c=>intro _ _ ν γ S p A σ fl S' p' M F h;simp only[cL]at h;cases h
 |drop ts c ih=>
  intro hk hok ν γ S p A σ fl S' p' M F h;simp only[cL]at h;exact ih hk hok ν γ _ p A σ fl S' p' M (F.keeps ts) h
 |ice t c ih=>
  intro hk hok ν γ S p A σ fl S' p' M F h;simp only[cL]at h;split at h
  ·rename_i S1 p1 h1;obtain⟨ν1,M1,F1,A1⟩:=mO M F h1;obtain⟨A',σ',ν',γ',k1,k2,k3,k4,k5⟩:=ih hk hok ν1 γ S1 p1 A σ fl S' p' M1 F1 h;exact⟨A',σ',ν',γ',k1,k2,k3,A1.trans k4,k5⟩
  ·cases h
theorem aC1: ∀(l:List (PV×Bool)) (i:Nat) (S:PS) (k:Nat),(uP l i S).at k=if i≤k∧k<i+l.length then(l[k-i]?).getD (.und,false)else S.at k:=by
 intro l;induction l with
 |nil=>intro i S k;simp[uP];omega
 |cons x l ih=>
  intro i S k;simp only[uP,ih,kA,lcS];by_cases h:k=i
  ·subst h;simp;omega
  ·by_cases h2:i+1≤k∧k<i+1+l.length
   ·rw[if_pos h2,if_pos (by omega),show k-i=(k-(i+1))+1 by omega,gcS]
   ·rw[if_neg h2,if_neg h,if_neg (by omega)]
theorem FR.fill{args:List (PV×Bool)}{us:List Value}(r:RL ν σ (args.map (·.1)) us)(ho: ∀(i:Nat) (x:PV) (w:Value),args[i]?=some (x,true)→us[i]?=some w→Ow ν γ σ (.slot i) x w):FR ν γ σ (uP args 0 .none) (jC us 0 .nil):=by
 intro t;rw[aC1,uO];have hl:args.length=us.length:=by have:=r.1;simpa using this
 by_cases h:0≤t∧t<0+args.length
 ·rw[if_pos h,if_pos (by rw[←hl];exact h)]
  have h1:args[t]?=some (args[t]'(by omega)):=geG _
  obtain⟨u,h2,h3⟩:=r.get (i:=t) (x:=(args[t]'(by omega)).1) (by rw[List.getElem?_map,h1];rfl)
  simp only[Nat.sub_zero,h1,h2,Option.getD_some];refine⟨h3,fun hb=>ho t _ u ?_ h2⟩
  rw[h1,←hb]
 ·rw[if_neg h];exact⟨.und _,fun h=>(by cases h)⟩
theorem aAi{p:PSt}(M:Mem ν γ p σ)(F:FR ν γ σ S A): ∀(l:List ResultVar) (vs:List (PV×Bool)),dB P S p l=some vs→∃us,cU P A σ l=some us∧RL ν σ (vs.map (·.1)) us:=by
 intro l;induction l with
 |nil=>intro vs h;simp only[dB,ojE]at h;subst h;exact⟨[],rfl,.nil⟩
 |cons r l ih=>
  intro vs h;simp only[dB]at h;split at h
  ·rename_i v vs' hv hvs;simp only[ojE]at h;subst h;obtain⟨us,h1,h2⟩:=ih vs' hvs;have: ∃u,rP P A σ r=some u∧R ν σ v.1 u:=by
    cases r with
    |tmp t=>simp only[kE,ojE]at hv;subst hv;exact⟨_,rfl,(F t).1⟩
    |cell a t=>
     simp only[kE,mjE]at hv;obtain⟨v',hl,rfl⟩:=hv;exact tN M (F a).1 hl
   obtain⟨u,h3,h4⟩:=this;exact⟨u::us,by simp only[cU,h3,h1],.cons h4 h2⟩
  ·cases h
theorem aEH{p:PSt}(M:Mem ν γ p σ)(F:FR ν γ σ S A){l:List ResultVar}{vs:List (PV×Bool)}(h:dB P S p l=some vs):
    ∃us γ',cU P A σ l=some us∧R ν σ (bD vs).1 (qI us)∧((bD vs).2=true→Ow ν γ' σ .hand (bD vs).1 (qI us))∧G2 γ γ':=by
 obtain⟨us,h1,h2⟩:=aAi M F l vs h;cases vs with
 |nil=>
  have:=h2.nil_inv;subst this;exact⟨[],γ,h1,.mkTup .nil,fun h=>(by cases h),.refl γ⟩
 |cons v vs=>
  cases vs with
  |nil=>
   obtain⟨u,us',rfl,h3,h4⟩:=h2.cons_inv;have:=h4.nil_inv;subst this;cases l with
   |nil=>simp[dB]at h
   |cons r l=>
    cases r with
    |tmp t=>
     have hv:v=S.at t:=by
      simp only[dB,kE]at h;split at h
      ·rename_i v' vs' e1 e2;simp only[ojE,List.cons.injEq]at h e1;rw[←h.1,←e1]
      ·cases h
     have hu:u=A.at t:=by
      simp only[cU,rP]at h1;split at h1
      ·rename_i v' vs' e1 e2;simp only[ojE,List.cons.injEq]at h1 e1;rw[←h1.1,←e1]
      ·cases h1
     refine⟨[u],PI.mv (.slot t) .hand γ,h1,h3.wk,fun ho=>?_,.mv (by simp) (by simp)⟩
     simp only[bD,bjE]at ho⊢;subst hv;subst hu;have how:Ow ν (PI.mv (.slot t) .hand γ) σ .hand (S.at t).1 (A.at t):=by
      cases hs:(S.at t).2 with
      |true=>exact((F t).2 hs).mv (k':= .hand)
      |false=>
       rw[hs,Bool.false_or]at ho;have h5:=(F t).1;cases hx:(S.at t).1 with
       |nil=>rw[hx]at h5;generalize A.at t=w at h5⊢;cases h5;exact .nil _
       |_=>rw[hx]at ho;cases ho.1
     have hne:=ho.2;simp only[qI];generalize (S.at t).1=x at how hne⊢;generalize A.at t=w at how⊢;cases x with
     |sl z es=>cases es with
      |nil=>simp[isE]at hne
      |cons e es=>exact how
     |nil=>cases how with
      |nil=>exact .nil _
      |exact _ _ _ _ rcs m hr=>exact .exact _ _ _ _ rcs m hr
      |zer _ b o=>exact .zer _ b o
     |_=>cases how with
      |nil=>exact .nil _
      |exact _ _ _ _ rcs m hr=>exact .exact _ _ _ _ rcs m hr
      |zer _ b o=>exact .zer _ b o
    |cell a t=>
     refine⟨[u],γ,h1,h3.wk,fun ho=>?_,.refl γ⟩
     simp only[dB,kE]at h;split at h
     ·rename_i v' vs' e1 e2;simp only[ojE,List.cons.injEq]at h;simp only[mjE]at e1;obtain⟨v2,_,rfl⟩:=e1;simp only[bD,←h.1,Bool.false_or,bjE]at ho⊢;rw[←h.1]at h3;cases v2 with
      |nil=>cases h3;exact .nil _
      |_=>cases ho.1
     ·cases h
  |cons v2 vs=>
   obtain⟨u,us',rfl,h3,h4⟩:=h2.cons_inv;obtain⟨u2,us'',rfl,h5,h6⟩:=h4.cons_inv;exact⟨_,γ,h1,.mkTup h2.wks,fun h=>(by cases h),.refl γ⟩
end
end Go.PI
namespace Go.PI
open Go.AI
def uni:List Nat→List Nat→List Nat
 |[],l=>l
 |x::xs,l=>bif l.contains x then uni xs l else x::uni xs l
def del(l:List Nat)(k:List Nat):List Nat:=l.filter fun x=> !k.contains x
def tmpOf:Operand→List Nat
 | .tmp t=>[t]
 |_=>[]
def usesOf(ops:Array Oper)(o:Oper):List Nat:=
 o.op.operands.toList.flatMap tmpOf++(match o.guard with|some (j,_)=>(match ops[j]? with|some q=>q.dst.toList|none=>[])|none=>[])
def aGv(ops:Array Oper):List Oper→List Nat→List Nat
 |[],out=>out
 |o::os,out=>uni (usesOf ops o) (del (aGv ops os out) o.dst.toList)
def lv(rs:List Nat):Code→List Nat→List (Nat×List Nat)→List Nat
 | .region _ ops _,out,_=>aGv ops ops.toList out
 | .seq a b,out,ex=>lv rs a (lv rs b out ex) ex
 | .cond c a b,out,ex=>uni (tmpOf c) (uni (lv rs a out ex) (lv rs b out ex))
 | .block id c,out,ex=>lv rs c out ((id,out)::ex)
 | .loop c,_,ex=>lv rs c [] ex
 | .exit id,_,ex=>match ex.find? fun e=>Nat.beq e.1 id with|some e=>e.2|none=>[]
 | .ret,_,_=>rs
 | .scope c,out,ex=>lv rs c out ex
 |_,out,_=>out
def isApp(ops:Array Oper)(a i s:Nat):Bool:=
 match ops[a]?,ops[i]?,ops[s]? with
 |some oA,some oI,some oS=>
  match oA.op,oA.dst,oI.op,oI.dst,oS.op with
  | .call c,some d,.indexAddr _ (.tmp d') _,some b,.store _ (.tmp b') _=>gY oA&&Nat.beq d d'&&Nat.beq b b'
  |_,_,_,_,_=>false
 |_,_,_=>false
end Go.PI
namespace Go.PI
open Go.AI
section
variable{P:Program}{ν ν' ν'':Nu}{γ γ1 γ':Ga}{σ σ':St}{S:PS}{A:Slots}
def ovP:OV→PV
 | .s l=> .str l
 | .t=> .v (.bool true)
def orP(O:Orc)(f:FuncId)(args:List (PV×Bool)):Option OV:=
 bif Nat.beq f O.n then(match args with
 |[(.v (.int .i64 a),_),(.v (.int .i64 b),_)]=>(O.s a b).map .s
 |_=>none)else bif Nat.beq f O.m then(match args with
 |[]=>some .t
 |_=>none)else none
def gdP(O:Orc)(f:FuncId)(args:List (PV×Bool)):Bool:=
 bif Nat.beq f O.n then(match args with
 |[(.v (.int .i64 a),_),(.v (.int .i64 b),_)]=>true
 |_=>false)else bif Nat.beq f O.m then(match args with
 |[]=>true
 |_=>false)else true
variable(P) in
def jG(O:Orc)(G:PTab)(L:Nat):Nat→gD
 |0,_,_,_=>none
 |n+1,f,args,p=>match orP O f args with
  |some s=>some (ovP s,false,p)
  |none=>bif !gdP O f args|| !aEG P f args.length then none else match G f with
   |some (c,rs)=>match cL P (jG O G L n) L c (uP args 0 .none) (st0 p)with
    |some (.exit _,_,_)=>none
    |some (_,S,p')=>match dB P S p' rs with
     |some vs=>some ((bD vs).1,(bD vs).2,settle p (bD vs).1 p')
     |none=>none
    |none=>none
   |none=>none
theorem R.int_inv{x:Int}{k:IntKind}{u:Value}(h:R ν σ (.v (.int k x)) u):u= .int k x:=by cases h;rfl
theorem orA_of{O:Orc}{f:FuncId}{args:List (PV×Bool)}{us:Array Value}(r:RL ν σ (args.map (·.1)) us.toList)(h:gdP O f args=true):orA O f us=(orP O f args).map OV.v:=by
 unfold gdP at h;unfold orA orP;cases hf:Nat.beq f O.n with
 |false=>
  rw[hf,cdf]at h;simp only[cdf];cases hm:Nat.beq f O.m with
  |false=>rfl
  |true=>
   rw[hm,cdt]at h;simp only[cdt];split at h
   ·obtain⟨hl,_⟩:=r
    match hu:us.toList,hl with
    |[],_=>rfl
   ·cases h
 |true=>
  rw[hf,cdt]at h;simp only[cdt];split at h
  ·rename_i a o1 b o2;obtain⟨hl,hr⟩:=r
   match hu:us.toList,hl,hr with
   |[u,v],_,hr=>
    have e1:=R.int_inv (hr 0 _ u rfl rfl);have e2:=R.int_inv (hr 1 _ v rfl rfl);rw[e1,e2]
  ·cases h
theorem gdP_of{O:Orc}{f:FuncId}{args:List (PV×Bool)}{s:OV}(h:orP O f args=some s):gdP O f args=true:=by
 unfold orP at h;unfold gdP;cases hf:Nat.beq f O.n with
 |false=>
  rw[hf,cdf]at h;rw[cdf];cases hm:Nat.beq f O.m with
  |false=>rfl
  |true=>
   rw[hm,cdt]at h;rw[cdt];split at h
   ·rfl
   ·cases h
 |true=>
  rw[hf,cdt]at h;rw[cdt];split at h
  ·rfl
  ·cases h
def aIL(P C:Program)(G:PTab):Prop:=
 ∀f c rs,G f=some (c,rs)→∃fn,C.funcs[f]?=some fn∧fn.body=some (cM c)∧rs=fn.results.toList∧vE c∧cJ P fn.ntmps (cM c)=true
theorem aHP{C:Program}{O:Orc}{G:PTab}(hG:aIL P C G)(L:Nat): ∀n,jL (jG P O G L n) (oM P C O L n):=by
 intro n;induction n with
 |zero=>intro g args p v own p' h;simp only[jG]at h;cases h
 |succ n ih=>
  intro g args p v own p' h ν γ σ us M r ho;simp only[jG]at h;split at h
  ·rename_i s hs;simp only[ojE,pjE]at h;obtain⟨rfl,rfl,rfl⟩:=h;refine⟨s.v,σ,ν,γ,by simp only[oM,orA_of r (gdP_of hs),hs,omS],(match s with| .s l=>R.str ⟨l.toArray⟩| .t=>R.v _ rfl),fun h=>(by cases h),M,Adv.refl ν γ p σ,fun j _ h=>h⟩
  rename_i hno;cases hgd:gdP O g args with
  |false=>rw[hgd]at h;cases h
  |true=>
  rw[hgd]at h;cases har:aEG P g args.length with
  |false=>rw[har]at h;cases h
  |true=>
  rw[har]at h;simp only[bnT,Bool.or_self,cdf]at h;have hus:us.size=args.length:=by have:=r.1;simpa using this.symm
  have hna:orA O g us=none:=by rw[orA_of r hgd,hno];rfl
  split at h
  ·rename_i c rs hg;obtain⟨fn,h1,h2,rfl,h4,h5⟩:=hG g c rs hg;simp only[oM,hna,hus,har,cdt,h1,h2];have M0:Mem ν γ (st0 p) σ:=⟨M.le,M.lt,M.inj,M.live,M.get,M.free,M.ver⟩;have key: ∀fl S' p1,cL P (jG P O G L n) L c (uP args 0 .none) (st0 p)=some (fl,S',p1)→(∀k,fl≠ .exit k)→∀vs,dB P S' p1 fn.results.toList=some vs→
          v=(bD vs).1→own=(bD vs).2→p'=settle p (bD vs).1 p1→
          ∃u σ' ν' γ',cB P fn (bG P (oM P C O L n) L (cM c) (jC us.toList 0 .nil) σ)=some (u,σ')∧R ν' σ' v u∧(own=true→Ow ν' γ' σ' .hand v u)∧Mem ν' γ' p' σ'∧Adv ν γ p σ ν' γ' p' σ'∧∀j,j<σ.next→σ.get j=none→σ'.get j=none:=by
    intro fl S' p1 he hne vs hvs hv hown hp';obtain⟨A',σ1,ν1,γ1,k1,k2,k3,k4,k5⟩:=execP_ok ih L fn.ntmps c h4 h5 ν γ _ _ (jC us.toList 0 .nil) σ fl S' p1 M0 (FR.fill r ho) he;obtain⟨us',γ2,j1,j2,j3,j4⟩:=aEH k2 k3 hvs;obtain⟨ν3,m1,m2,m3,m4⟩:=aFA (own:=(bD vs).2) M (k2.g2 j4) (k4.trans (.g j4.out)) j2 j3;rw[k1];subst hv;subst hown;subst hp';refine⟨qI us',σ1,ν3,γ2,?_,m1,m2,m3,m4,k5⟩;cases fl with
    |normal=>simp only[cB,j1];rfl
    |ret=>simp only[cB,j1];rfl
    |exit k=>exact absurd rfl (hne k)
   split at h
   ·cases h
   ·rename_i fl S' p1 hne he;split at h
    ·rename_i vs hvs;simp only[ojE,pjE]at h;exact key fl S' p1 he (fun k e=>hne k e) vs hvs h.1.symm h.2.1.symm h.2.2.symm
    ·cases h
   ·cases h
  ·cases h
end
end Go.PI
