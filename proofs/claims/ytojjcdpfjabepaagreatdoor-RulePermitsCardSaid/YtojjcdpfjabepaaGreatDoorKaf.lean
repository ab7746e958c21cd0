import Derived.Test.YtojjcdpfjabepaaGreatDoorKx
import Derived.Test.YtojjcdpfjabepaaGreatDoorKae
import Derived.Test.YtojjcdpfjabepaaGreatDoorKm
import Derived.Test.YtojjcdpfjabepaaGreatDoorKt
set_option linter.unusedVariables false
set_option linter.unusedSimpArgs false
set_option linter.constructorNameAsVariable false
namespace Go.TV
open Go.AI Go.PI Go.Proofs
set_option maxRecDepth 20000
section
variable(L:Nat){E:List G.E}(hE:WOK E)
theorem aAA{n:Nat}(h:60≤n):Lib (CTp (L+7000) n):=by
 obtain⟨m,rfl⟩: ∃m,n=m+60:=⟨n-60,by omega⟩
 exact lib_ok L m
theorem va_n{n:Nat}(h:61≤n)(s:G.Z)(hs:cO s):TSR (CTp (L+7000) n 13 [yR 0 s]) 6:=by
 obtain⟨m,rfl⟩: ∃m,n=m+1:=⟨n-1,by omega⟩
 rw[c13];exact Va_ok (aAA L (by omega)) hs
theorem o0_n{n:Nat}(h:61≤n)(s:G.Z)(hs:cO s):OSR (CTp (L+7000) n 14 [yI (0:Int),yR 0 s]) 20:=by
 obtain⟨m,rfl⟩: ∃m,n=m+1:=⟨n-1,by omega⟩
 rw[c14];exact Ob0 (aAA L (by omega)) hs
theorem o1_n{n:Nat}(h:62≤n)(s:G.Z)(hs:cO s):OSR (CTp (L+7000) n 14 [yI (1:Int),yR 0 s]) 200:=by
 obtain⟨m,rfl⟩: ∃m,n=m+1:=⟨n-1,by omega⟩
 rw[c14];exact Ob1 (aAA L (by omega)) (by omega) (o0_n L (by omega)) hs
include hE
theorem ar_n{n:Nat}(h:4≤n)(f:G.Y):ArR (CTp (L+7000) n 19 [yS 16 E,yR 1 f]):=by
 obtain⟨m,rfl⟩: ∃m,n=m+4:=⟨n-4,by omega⟩
 exact Ar_ok hE f (by omega)
theorem t0_n{n:Nat}(h:63≤n)(s:G.Z)(hs:cO s):TSR (CTp (L+7000) n 5 [yS 16 E,yI (0:Int),yR 0 s]) 204:=by
 obtain⟨m,rfl⟩: ∃m,n=m+1:=⟨n-1,by omega⟩
 rw[c5];exact Te_ok (aAA L (by omega)) (by omega) (B:=204) (by omega) (by omega) (va_n L (by omega)) (o1_n L (by omega)) (ar_n L hE (by omega)) (fun h=>by omega) hs
theorem t1_n{n:Nat}(h:64≤n)(s:G.Z)(hs:cO s):TSR (CTp (L+7000) n 5 [yS 16 E,yI (1:Int),yR 0 s]) 621:=by
 obtain⟨m,rfl⟩: ∃m,n=m+1:=⟨n-1,by omega⟩
 rw[c5];exact Te_ok (aAA L (by omega)) (by omega) (B:=204) (by omega) (by omega) (va_n L (by omega)) (o1_n L (by omega)) (ar_n L hE (by omega)) (fun _=>t0_n L hE (by omega)) hs
theorem t2_n{n:Nat}(h:65≤n)(s:G.Z)(hs:cO s):TSR (CTp (L+7000) n 5 [yS 16 E,yI (2:Int),yR 0 s]) 1872:=by
 obtain⟨m,rfl⟩: ∃m,n=m+1:=⟨n-1,by omega⟩
 rw[c5];exact Te_ok (aAA L (by omega)) (by omega) (B:=621) (by omega) (by omega) (va_n L (by omega)) (o1_n L (by omega)) (ar_n L hE (by omega)) (fun _=>t1_n L hE (by omega)) hs
end
theorem smF_ok{E:List G.E}(h:smF E=true):WOK E:=by
 simp only[smF,smE,bjE,List.all_eq_true]at h;exact⟨Nat.le_of_ble_eq_true h.1.2,fun e he=>Nat.le_of_ble_eq_true (h.2 e he).1,fun e he f hf=>Nat.le_of_ble_eq_true ((h.2 e he).2 f hf)⟩
end Go.TV
namespace Go.AI
section
variable{P:Program}
def aHH(aw:FuncId)(c0:FuncId→Array Value→St→Option (Value×St))(f:FuncId)(args:Array Value)(σ:St):Option (Value×St):=
 bif Nat.beq f aw then(match args.toList with
 |[]=>some (.bool true,σ)
 |_=>none)else c0 f args σ
theorem callA_ok{w0:W0}{aw:FuncId}{c0:FuncId→Array Value→St→Option (Value×St)}(h0:CallOK w0 P c0)
    (ha : ∀ w, Kept w0.toWorld w → (∃ fn c, P.funcs[aw]? = some fn ∧ fn.body = some c ∧ (fn.name == "runtime.NumGoroutine") = false) ∧ Calls P aw #[] w fun e w' => e = .returned (.bool true) ∧ Kept w w') : CallOK w0 P (aHH aw c0) := by
 intro f args args' σ σ' w μ r h Z hargs;unfold aHH at h;cases hf:Nat.beq f aw with
 |false=>rw[hf]at h;exact h0 f args args' σ σ' w μ r h Z hargs
 |true=>
  rw[hf,cdt]at h;rw[nqE hf];split at h
  ·rename_i he;simp only[ojE,pjE]at h;obtain⟨rfl,rfl⟩:=h;rw[he]at hargs;have q3:args'= #[]:=by rw[←Array.toArray_toList (xs:=args'),hargs.nil_inv]
   subst q3;obtain⟨g1,g2⟩:=ha w Z.kept.toKept;exact⟨g1,g2.mono fun e w' ⟨h5,h6⟩=>⟨μ,_,h5,.same _ rfl,Z.keep h6,.refl _ _,nlR _⟩⟩
  ·cases h
end
end Go.AI
namespace Go.PI
open Go.AI
def sW(aw:FuncId)(pc:dZ):dZ:=fun f args p=>
 bif Nat.beq f aw then(match args with
 |[]=>some (.v (.bool true),false,p)
 |_=>none)else pc f args p
theorem aHG{aw:FuncId}{pc:dZ}{ac:FuncId→Array Value→St→Option (Value×St)}(h0:fK pc ac):fK (sW aw pc) (aHH aw ac):=by
 intro g args p v own p' h ν γ σ us M r ho;unfold sW at h;unfold aHH;cases hf:Nat.beq g aw with
 |false=>rw[hf]at h;exact h0 g args p v own p' h ν γ σ us M r ho
 |true=>
  rw[hf,cdt]at h;simp only[cdt];split at h
  ·simp only[ojE,pjE]at h;obtain⟨rfl,rfl,rfl⟩:=h;have hu:us.toList=[]:=List.length_eq_zero_iff.1 (by have:=r.1;simpa using this.symm)
   rw[hu];exact⟨_,σ,ν,γ,rfl,R.v _ rfl,fun h=>(by cases h),M,Adv.refl ν γ p σ,fun j _ h=>h⟩
  ·cases h
end Go.PI
namespace Go.TV
open Go.AI Go.PI
section
variable{U:iE}{T:TP U.D}
def awS(aw:FuncId):Sig:=⟨aw,[],[],[],[.bool],false⟩
def aHF(T:TP U.D)(aw:FuncId)(tc:kW U.D):kW U.D:=fun i d=>match T.sig i with
 |some s=>bif Nat.beq s.f aw then(match d with
  |[]=>some [⟨.bool,true⟩]
  |_=>none)else tc i d
 |none=>none
theorem aHE{aw:FuncId}{tc:kW U.D}{pc:dZ}(h0:CallOK U T tc pc)(hs: ∀i s,T.sig i=some s→s.f=aw→s=awS aw):CallOK U T (aHF T aw tc) (sW aw pc):=by
 intro i s d out h1 h p cc args S0 M0 hin;unfold aHF at h;rw[h1]at h;simp only at h;unfold sW;cases hf:Nat.beq s.f aw with
 |false=>rw[hf]at h;exact h0 i s d out h1 h p cc args S0 M0 hin
 |true=>
  rw[hf,cdt]at h;have e:=hs i s h1 (nqE hf);subst e;split at h
  ·simp only[ojE]at h;subst h;have hl:args=[]:=List.length_eq_zero_iff.1 hin.len;subst hl;refine⟨.v (.bool true),false,p,rfl,?_⟩;exact⟨⟨bT _,aE _ _⟩,⟨[],rfl,fun j x hj=>(by cases hj)⟩,rfl,fun _ _ _=>rfl,fun _ _ _=>rfl,fun id h=> .inl h,fun id h=>h,fun id h=> .inl h⟩
  ·cases h
end
end Go.TV
namespace Go.TV
open Go.AI Go.PI Go.Proofs
set_option maxRecDepth 20000
theorem obL_is'{β:Type}{a:Int}{b:G.Z}{K:Int×G.Z×Unit→Option β}:obL (D:=U0.D) [.int .i64,.rc 0] (some [⟨.int .i64,a⟩,⟨.rc 0,b⟩]) K=K (a,b,()):=rfl
theorem obL_ls{β:Type}{a:List G.E}{K:List G.E×Unit→Option β}:obL (D:=U0.D) [.sl (.rc 16)] (some [⟨.sl (.rc 16),a⟩]) K=K (a,()):=rfl
structure PmC(c:TC0)(E:List G.E):Prop where
 aw:c 1 []=some [⟨.bool,true⟩]
 wo:c 2 [⟨.int .u32,(0:Int)⟩]=some [⟨.sl (.rc 16),E⟩]
 us: ∀w,c 3 [⟨.str,w⟩]=some [⟨.rc 1,(⟨fZ,w⟩:G.Y)⟩]
 nx: ∀(s:G.Z) (a:Int),cO s→1≤a→NxR (c 4 [⟨.int .i64,a⟩,⟨.rc 0,s⟩]) a
 te: ∀s,cO s→TSR (c 5 [⟨.sl (.rc 16),E⟩,⟨.int .i64,(2:Int)⟩,⟨.rc 0,s⟩]) 1872
 pm: ∀(r:G.U) (s:List G.I),okSt r→okSb s→∃b:Bool,c 6 [⟨.rc 5,r⟩,⟨.sl (.rc 6),s⟩]=some [⟨.bool,b⟩]∧c 7 [⟨.rc 5,r⟩,⟨.sl (.rc 6),s⟩]=some [⟨.bool,b⟩]
def xyz:List (List UInt8):=[[120],[121],[122]]
theorem aFl{i:Int}(h0:0≤i)(h1:i<3): ∃w,idx xyz i=some w∧okV ⟨fZ,w⟩=true:=by
 have:i=0∨i=1∨i=2:=by omega
 rcases this with rfl|rfl|rfl
 ·exact⟨[120],rfl,rfl⟩
 ·exact⟨[121],rfl,rfl⟩
 ·exact⟨[122],rfl,rfl⟩
section
variable{c:TC0}{E:List G.E}(h:PmC c E)
include h
theorem fin_ok{L:Nat}{n3:Int→(List (List UInt8))→(List G.E)→Int→(List G.I)→G.Z→G.U→Rt}{i a:Int}{s:List G.I}{b:G.Z}{r:G.U}(hr:okSt r)(hs:okSb s):J0x4 c L n3 false i a xyz E s b r=some [⟨.bool,true⟩]:=by
 obtain⟨q,e1,e2⟩:=h.pm r s hr hs;rw[J0x4,B0x4,aF,e1,eX,e2,eX];simp only[BEq.rfl]
theorem sub_loop{L:Nat}{a:Int}{r:G.U}(hr:okSt r): ∀(d i m:Nat) (s:List G.I) (b:G.Z),3=i+d→d<m→s.length≤i→(∀x∈s,tsz x.term≤2000)→cO b→W0x3 c L m a xyz E (i:Int) s b r=some [⟨.bool,true⟩]:=by
 intro d;induction d with
 |zero=>
  intro i m s b h1 h2 h3 h4 hb;obtain⟨m,rfl⟩: ∃q,m=q+1:=⟨m-1,by omega⟩
  have hs:okSb s:=⟨by omega,h4⟩
  rw[W0x3,B0x3,decide_eq_false (by omega: ¬(i:Int)<3)]
  cases decide ((i:Int)<a)<;>exact fin_ok (L:=L) h hr hs
 |succ d ih=>
  intro i m s b h1 h2 h3 h4 hb;obtain⟨m,rfl⟩: ∃q,m=q+1:=⟨m-1,by omega⟩
  have hs:okSb s:=⟨by omega,h4⟩
  rw[W0x3,B0x3,decide_eq_true (by omega:(i:Int)<3)]
  cases decide ((i:Int)<a)with
  |false=>exact fin_ok (L:=L) h hr hs
  |true=>
   obtain⟨w,e1,_⟩:=aFl (i:=(i:Int)) (by omega) (by omega)
   obtain⟨t,b',e2,g1,g2⟩:=h.te b hb;rw[aJ,J0x4,B0x4,aJ,e1,dT,h.us,aCU,e2,aGo];have hc:Nat.ble ((s.length+([(G.I.mk ⟨fZ,w⟩ t)]:List G.I).length)*208) 1073741824=true:=by rw[Nat.ble_eq];simp;omega
   show chk (Nat.ble ((s.length+([(G.I.mk ⟨fZ,w⟩ t)]:List G.I).length)*208) 1073741824) (W0x3 c L m a xyz E (IntKind.i64.wrap ((i:Int)+1)) (s++ [(G.I.mk ⟨fZ,w⟩ t)]) b' r)=_;rw[hc,dP (by omega)]
   refine ih (i+1) m _ b' (by omega) (by omega) (by simp;omega) (fun x hx=>?_) g2
   rcases List.mem_append.1 hx with hx|hx
   ·exact h4 x hx
   ·rw[List.mem_singleton]at hx;subst hx;show tsz t≤2000;omega
theorem stp_loop{L:Nat}(hL:10≤L){a:List Int}(ha: ∀x∈a,0≤x∧x<256)(hb:a.length≤6){b:G.Z}(hs:cO b): ∀(l:List Int) (i m:Nat) (r:G.U),a.drop i=l→l.length<m→r.stops.length+l.length≤a.length→(∀p∈r.stops,okV p.a0=true∧okV p.a1=true)→
    W0x2 c L m a (i:Int) xyz E b r=some [⟨.bool,true⟩]:=by
 intro l;induction l with
 |nil=>
  intro i m r h1 h3 h4 h5;obtain⟨m,rfl⟩: ∃q,m=q+1:=⟨m-1,by simp at h3;omega⟩
  have e1:=bA h1;have e3:decide ((i:Int)<(a.length:Int))=false:=by simp;omega
  obtain⟨n,b',e,g1,g2,g3⟩:=h.nx b 4 hs (by omega)
  rw[W0x2,B0x2,e3,aF,e,obL_is'];exact sub_loop h (L:=L) (a:=n) (r:=r) ⟨by simp at h4;omega,h5⟩ 3 0 L [] b' rfl (by omega) (nlR _) (fun x hx=>by cases hx) g3
 |cons x l ih=>
  intro i m r h1 h3 h4 h5;obtain⟨m,rfl⟩: ∃q,m=q+1:=⟨m-1,by simp at h3;omega⟩
  obtain⟨a1,a2,a3⟩:=aZ h1;obtain⟨x0,x1⟩:=ha x (List.mem_of_getElem? a1);have e3:decide ((i:Int)<(a.length:Int))=true:=by simp;omega
  have k3:decide ((3:Int)=0)=false:=rfl;obtain⟨n,rfl⟩: ∃n:Nat,x=(n:Int):=⟨x.toNat,by omega⟩
  have w1:IntKind.i64.wrap (n:Int)=(n:Int):=mD (by omega) (by omega)
  have w2:Int.tmod (n:Int) 3=((n%3:Nat):Int):=rfl;have w3:Int.tdiv (n:Int) 3=((n/3:Nat):Int):=rfl;have w4:IntKind.u8.wrap ((n/3:Nat):Int)=((n/3:Nat):Int):=by
   unfold IntKind.wrap;simp[IntKind.bits,IntKind.signed];omega
  have w5:IntKind.i64.wrap ((n/3:Nat):Int)=((n/3:Nat):Int):=mD (by omega) (by omega)
  have w6:Int.tmod ((n/3:Nat):Int) 3=((n/3%3:Nat):Int):=rfl;obtain⟨u,d1,d2⟩:=aFl (i:=((n%3:Nat):Int)) (by omega) (by omega)
  obtain⟨v,d3,d4⟩:=aFl (i:=((n/3%3:Nat):Int)) (by omega) (by omega)
  rw[W0x2,B0x2,e3,aJ,aL,a1,dT,k3,w1,w2,d1];simp only[Bool.not_false,aBB,dT,w3,w4,w5,w6,d3,h.us,aCU];have hc:Nat.ble ((r.stops.length+([(G.Q.mk ⟨fZ,u⟩ ⟨fZ,v⟩)]:List G.Q).length)*64) 1073741824=true:=by rw[Nat.ble_eq];simp at h4⊢;omega
  show chk (Nat.ble ((r.stops.length+([(G.Q.mk ⟨fZ,u⟩ ⟨fZ,v⟩)]:List G.Q).length)*64) 1073741824) (W0x2 c L m a (IntKind.i64.wrap ((i:Int)+1)) xyz E b (G.U.mk r.name r.cls r.hyps r.equiv r.left r.right r.terms r.tset (r.stops++ [(G.Q.mk ⟨fZ,u⟩ ⟨fZ,v⟩)]) r.arg r.inner))=_;rw[hc,dP (by omega)]
  refine ih (i+1) m _ a3 (by simp at h3;omega) ?_ fun p hp=>?_
  ·show(r.stops++ [(G.Q.mk ⟨fZ,u⟩ ⟨fZ,v⟩)]).length+l.length≤a.length;simp at h4⊢;omega
  ·have hp':p∈r.stops++ [(G.Q.mk ⟨fZ,u⟩ ⟨fZ,v⟩)]:=hp;rcases List.mem_append.1 hp' with hp|hp
   ·exact h5 p hp
   ·rw[List.mem_singleton]at hp;subst hp;exact⟨d2,d4⟩
theorem row25_of{L:Nat}(hL:10≤L){a b:List Int}(ha: ∀x∈a,0≤x∧x<256)(hb: ∀x∈b,0≤x∧x<256):F0 c L a b=some [⟨.bool,true⟩]:=by
 rw[F0,B0x0,h.aw,eX];simp only[bnT];rw[aF];have go: ∀f:Bool,(f=false→a.length≤80∧b.length≤6)→J0x1 c L f a b=some [⟨.bool,true⟩]:=fun f hf=>by
  rw[J0x1,B0x1];cases f with
  |true=>rfl
  |false=>
   obtain⟨q1,q2⟩:=hf rfl;rw[aF,h.wo,obL_ls];exact stp_loop h hL hb q2 ⟨ha,Int.le_refl _,by show(0:Int)≤(a.length:Int);omega,by show a.length≤100;omega⟩ b 0 L _ rfl (by omega) (by show 0+b.length≤_;omega) (fun p hp=>by cases hp)
 by_cases h8:(80:Int)<(a.length:Int)
 ·rw[decide_eq_true h8,aJ];exact go true fun e=>by cases e
 ·rw[decide_eq_false h8,aF];refine go _ fun e=>?_
  simp only[dfN]at e;exact⟨by omega,by omega⟩
end
end Go.TV
