import Derived.Test.YtojjcdpfjabepaaGreatDoorKq
import Derived.Test.YtojjcdpfjabepaaGreatDoorKp
set_option linter.unusedVariables false
set_option linter.unusedSimpArgs false
set_option linter.constructorNameAsVariable false
namespace Go.TV
open Go.AI Go.PI Go.Proofs
theorem chk_t{β:Type}{A:Option β}:chk true A=A:=rfl
end Go.TV
namespace Go.TV
open Go.AI Go.PI Go.Proofs
def blI(x:Int):Bool:=decide (x=32)||decide (x=9)||decide (x=10)||decide (x=13)
def csI(x:Int):Bool:=decide (33≤x)&&decide (x≤126)&& !decide (x=40)&& !decide (x=41)&& !decide (x=39)&& !decide (x=34)&& !decide (x=59)&& !decide (x=124)&& !decide (x=58)
def u8(x:UInt8):Int:=(x.toNat:Int)
theorem Bl_ok(x:Int)(L n:Nat):CTp L (n+1) 88 [⟨.int .u8,x⟩]=some [yB (blI x)]:=by
 rw[c88];simp only[F88,B88x0,J88x1,B88x1,blI];generalize decide (x=32)=a,decide (x=9)=b,decide (x=10)=d,decide (x=13)=e;cases a<;>cases b<;>cases d<;>cases e<;>rfl
theorem Cs_ok(x:Int)(L n:Nat):CTp L (n+1) 92 [⟨.int .u8,x⟩]=some [yB (csI x)]:=by
 rw[c92];simp only[F92,B92x0,J92x1,B92x1,csI];generalize decide (33≤x)=a,decide (x≤126)=b,decide (x=40)=d,decide (x=41)=e,decide (x=39)=f,decide (x=34)=g,decide (x=59)=h,decide (x=124)=i,decide (x=58)=j;cases a
 ·rfl
 cases b
 ·rfl
 cases d
 case true=>rfl
 cases e
 case true=>rfl
 cases f
 case true=>rfl
 cases g
 case true=>rfl
 cases h
 case true=>rfl
 cases i
 case true=>rfl
 cases j<;>rfl
theorem has_no{s:List UInt8}{k:Nat}{a b:Int}(hb:s.length<1000000000)(hk:k≤s.length)(h: ∀x,s[k]?=some x→u8 x≠a)(L n:Nat):CTp L (n+1) 89 [yT s,yI (k:Int),⟨.int .u8,a⟩,⟨.int .u8,b⟩]=some [yB false]:=by
 rw[c89];have e0:decide ((0:Int)≤(k:Int))=true:=by simp
 simp only[F89,B89x0,J89x1,B89x1,e0,eT];cases h1:decide (IntKind.i64.wrap ((k:Int)+1)<(s.length:Int))with
 |false=>rfl
 |true=>
  rw[eT,cX];cases h2:s[k]? with
  |none=>
   exfalso;have:=List.getElem?_eq_none_iff.1 h2;simp only[djE]at h1;rw[oP (by omega)]at h1
   omega
  |some x=>
   have:=h x h2;have e1:decide ((x.toNat:Int)=a)=false:=by simpa [u8]using this
   rw[oN,e1];rfl
theorem Wd_loop{c:TC0}{L:Nat}{s r:List UInt8}(hc: ∀x,c 92 [⟨.int .u8,x⟩]=some [yB (csI x)])(hb:s.length<1000000000)(hr: ∀y,r.head?=some y→csI (u8 y)=false):
    ∀(w:List UInt8) (k m:Nat),s.drop k=w++r→w.length<m→(∀x∈w,csI (u8 x)=true)→yA c L m s (k:Int)=some [yI ((k+w.length:Nat):Int)]:=by
 intro w;induction w with
 |nil=>
  intro k m h1 h2 _;obtain⟨m,rfl⟩: ∃m',m=m'+1:=⟨m-1,by simp at h2;omega⟩
  rw[yA,B93x1];rw[nlA]at h1;cases r with
  |nil=>
   have e1:=fD h1;have e3:decide ((k:Int)<(s.length:Int))=false:=by simp;omega
   rw[e3,bX,aEG,aEJ,bX];rfl
  |cons y r=>
   obtain⟨a1,a2,a3⟩:=dT h1;have e3:decide ((k:Int)<(s.length:Int))=true:=by simp;omega
   have e4:csI (y.toNat:Int)=false:=hr y rfl;rw[e3,eT,cX,a1,oN,hc,oT,aEG,aEJ,e4,bX];rfl
 |cons x w ih=>
  intro k m h1 h2 h3;obtain⟨m,rfl⟩: ∃m',m=m'+1:=⟨m-1,by simp at h2;omega⟩
  rw[yA,B93x1];obtain⟨a1,a2,a3⟩:=dT h1;have e3:decide ((k:Int)<(s.length:Int))=true:=by simp;omega
  have e4:csI (x.toNat:Int)=true:=h3 x (mhE ..);rw[e3,eT,cX,a1,oN,hc,oT,aEG,aEJ,e4,eT,oP (by omega)]
  rw[ih (k+1) m a3 (by simp at h2;omega) fun z hz=>h3 z (mtE _ hz)]
  simp only[lcS];congr 4;omega
theorem Wd_ok{s w r:List UInt8}{k L n:Nat}(hb:s.length<1000000000)(hL:s.length<L)(h:s.drop k=w++r)(hw: ∀x∈w,csI (u8 x)=true)(hr: ∀y,r.head?=some y→csI (u8 y)=false):
    CTp L (n+2) 93 [yT s,yI (k:Int)]=some [yI ((k+w.length:Nat):Int)]:=by
 have:=congrArg List.length h;simp at this;show CTp L (n+1+1) 93 _=_;rw[c93,F93,B93x0];exact Wd_loop (fun x=>Cs_ok x L n) hb hr w k L h (by omega) hw
theorem Sk_loop{c:TC0}{L:Nat}{s r:List UInt8}(hc: ∀x,c 88 [⟨.int .u8,x⟩]=some [yB (blI x)])
    (hh: ∀k:Nat,k≤s.length→(∀x,s[k]?=some x→u8 x≠35)→c 89 [yT s,yI (k:Int),⟨.int .u8,(35:Int)⟩,⟨.int .u8,(124:Int)⟩]=some [yB false])
    (hb:s.length<1000000000) (hr: ∀y,r.head?=some y→blI (u8 y)=false∧u8 y≠59∧u8 y≠35):
    ∀(w:List UInt8) (k m:Nat),s.drop k=w++r→w.length<m→(∀x∈w,blI (u8 x)=true)→sO c L m s (k:Int)=some [yI ((k+w.length:Nat):Int),yB true]:=by
 intro w;induction w with
 |nil=>
  intro k m h1 h2 _;obtain⟨m,rfl⟩: ∃m',m=m'+1:=⟨m-1,by simp at h2;omega⟩
  rw[sO,B67x1];rw[nlA]at h1;cases r with
  |nil=>
   have e1:=fD h1;have e3:decide ((k:Int)<(s.length:Int))=false:=by simp;omega
   rw[e3,bX];rfl
  |cons y r=>
   obtain⟨a1,a2,a3⟩:=dT h1;have e3:decide ((k:Int)<(s.length:Int))=true:=by simp;omega
   obtain⟨e4,e5,e6⟩:=hr y rfl;have e4:blI (y.toNat:Int)=false:=e4;have e7:decide ((y.toNat:Int)=59)=false:=by simpa [u8]using e5
   have h8:=hh k (by omega) fun x hx=>by rw[a1]at hx;cases hx;exact e6
   rw[e3,eT,cX,a1,oN,hc,oT,e4,bX,oN,e7,bX,h8,oT,bX];rfl
 |cons x w ih=>
  intro k m h1 h2 h3;obtain⟨m,rfl⟩: ∃m',m=m'+1:=⟨m-1,by simp at h2;omega⟩
  rw[sO,B67x1];obtain⟨a1,a2,a3⟩:=dT h1;have e3:decide ((k:Int)<(s.length:Int))=true:=by simp;omega
  have e4:blI (x.toNat:Int)=true:=h3 x (mhE ..);rw[e3,eT,cX,a1,oN,hc,oT,e4,eT,oP (by omega)]
  rw[ih (k+1) m a3 (by simp at h2;omega) fun z hz=>h3 z (mtE _ hz)]
  simp only[lcS];congr 4;omega
theorem Sk_ok{s w r:List UInt8}{k L n:Nat}(hb:s.length<1000000000)(hL:s.length<L)(h:s.drop k=w++r)(hw: ∀x∈w,blI (u8 x)=true)(hr: ∀y,r.head?=some y→blI (u8 y)=false∧u8 y≠59∧u8 y≠35):
    CTp L (n+2) 67 [yT s,yI (k:Int)]=some [yI ((k+w.length:Nat):Int),yB true]:=by
 have:=congrArg List.length h;simp at this;show CTp L (n+1+1) 67 _=_;rw[c67,F67,B67x0];exact Sk_loop (fun x=>Bl_ok x L n) (fun k h6 hk=>has_no hb h6 hk L n) hb hr w k L h (by omega) hw
end Go.TV
namespace Go.TV
open Go.AI Go.PI Go.Proofs
theorem slc_nat{α:Type}{s w r:List α}{k:Nat}(h:s.drop k=w++r)(hk:k≤s.length):slc s (k:Int) ((k+w.length:Nat):Int)=some w:=by
 have hl:=congrArg List.length h;simp at hl;unfold slc;have e1:decide ((0:Int)≤(k:Int))=true:=by simp
 have e2:decide ((k:Int)≤((k+w.length:Nat):Int))=true:=by simp;omega
 have e3:decide (((k+w.length:Nat):Int)≤(s.length:Int))=true:=by simp only[djE];omega
 rw[e1,e2,e3];simp only[Bool.and_self,cdt,Int.toNat_natCast,ojE];rw[List.drop_take,h];simp
theorem obL_nm{β:Type}{a b:List UInt8}{d:Bool}{K:List UInt8×List UInt8×Bool×Unit→Option β}:obL (D:=U0.D) [.str,.str,.bool] (some [yT a,yT b,yB d]) K=K (a,b,d,()):=rfl
theorem obL_se{β:Type}{a:G.X}{K:G.X×Unit→Option β}:obL (D:=U0.D) [.rc 20] (some [yR 20 a]) K=K (a,()):=rfl
theorem obL_ib{β:Type}{a:Int}{b:Bool}{K:Int×Bool×Unit→Option β}:obL (D:=U0.D) [.int .i64,.bool] (some [yI a,yB b]) K=K (a,b,()):=rfl
theorem obL_i{β:Type}{a:Int}{K:Int×Unit→Option β}:obL (D:=U0.D) [.int .i64] (some [yI a]) K=K (a,()):=rfl
theorem obL_s{β:Type}{a:List UInt8}{K:List UInt8×Unit→Option β}:obL (D:=U0.D) [.str] (some [yT a]) K=K (a,()):=rfl
theorem obL_s2{β:Type}{a b:List UInt8}{K:List UInt8×List UInt8×Unit→Option β}:obL (D:=U0.D) [.str,.str] (some [yT a,yT b]) K=K (a,b,()):=rfl
theorem obL_on{β:Type}{a:G.K}{b:Int}{d:G.X}{K:G.K×Int×G.X×Unit→Option β}:obL (D:=U0.D) [.rc 22,.int .i64,.rc 20] (some [yR 22 a,yI b,yR 20 d]) K=K (a,b,d,()):=rfl
theorem Nm_no{x:UInt8}{w:List UInt8}(h1:u8 x≠45)(h2:u8 x<48∨57<u8 x)(L n:Nat):CTp (L+1) (n+1) 95 [yT (x::w)]=some [yT [],yT [],yB false]:=by
 rw[c95];have e1:decide ((0:Int)<((x::w).length:Int))=true:=by simp
 have e2:decide ((x.toNat:Int)=45)=false:=by simpa [u8]using h1
 have e3:idx (x::w) (0:Int)=some x:=rfl;rw[F95,B95x0,e1,eT,e3,oN,e2,J95x1,B95x1,bX,J95x2,B95x2,aBG,B95x3,e1,eT,e3,oN];have key: ∀b:Bool,b=false→J95x4 (CTp (L+1) n) (L+1) (aBG (CTp (L+1) n) (L+1) L) b 0 (x::w) 0=some [yT [],yT [],yB false]:=by
  intro b hb;subst hb;rfl
 cases h3:decide ((48:Int)≤(x.toNat:Int))with
 |false=>exact key _ rfl
 |true=>
  rw[eT,oN];have h4:decide ((x.toNat:Int)≤(57:Int))=false:=by
   simp only[djE]at h3;simp only[dfN];simp only[u8]at h2;omega
  exact key _ h4
theorem Nd_ok{k p:Int}{w:List UInt8}(h:w.length≤40)(L n:Nat):CTp L (n+1) 91 [yR 22 ⟨k,p,[],w,[]⟩,yB false]=some [yR 20 ⟨0,0⟩]:=by
 rw[c91];have e1:decide ((40:Int)<(w.length:Int))=false:=by simp;omega
 simp only[F91,B91x0,e1,bX];rfl
structure NumW(c:TC0)(w:List UInt8):Prop where
 a:c 95 [yT w]=some [yT w,yT [49],yB true]
 b:c 96 [yT [49]]=some [yT [49]]
 d:c 96 [yT w]=some [yT w]
 e:c 87 [yT w,yT [49]]=some [yT w,yT [49]]
 f:c 97 [yT w]=some [yI 1]
 g:c 97 [yT [49]]=some [yI 1]
def SyW(w:List UInt8):Prop:= ∃x l,w=x::l∧u8 x≠45∧(u8 x<48∨57<u8 x)∧w≠ [46]∧w.length≤40
theorem aD0{x:Int}(h:csI x=true):x≠40∧x≠41∧x≠39∧x≠34∧x≠59∧x≠124∧x≠58:=by
 simp only[csI,bjE,Bool.not_eq_true',dfN]at h;obtain⟨⟨⟨⟨⟨⟨⟨_,h1⟩,h2⟩,h3⟩,h4⟩,h5⟩,h6⟩,h7⟩:=h;exact⟨h1,h2,h3,h4,h5,h6,h7⟩
def wtk(b:Bool)(p:Int)(w:List UInt8):G.K:=bif b then⟨5,p,[],w,[49]⟩else⟨6,p,[],w,[]⟩
theorem On_w{s w r:List UInt8}{k L n:Nat}{nu:Bool}(hb:s.length<1000000000)(hL:s.length<L)(h:s.drop k=w++r)(h0:w≠ [])(hw: ∀x∈w,csI (u8 x)=true)(hr: ∀y,r.head?=some y→csI (u8 y)=false∧u8 y≠58)
    (hk:(nu=true∧NumW (CTp L (n+2)) w)∨(nu=false∧SyW w)):
    CTp L (n+3) 68 [yT s,yI (k:Int)]=some [yR 22 (wtk nu (k:Int) w),yI ((k+w.length:Nat):Int),yR 20 ⟨0,0⟩]:=by
 have hl:=congrArg List.length h;simp at hl;obtain⟨L,rfl⟩: ∃L',L=L'+1:=⟨L-1,by omega⟩
 cases hw0:w with
 |nil=>exact(h0 hw0).elim
 |cons x l=>
  rw[←hw0];have hx:x∈w:=by rw[hw0];exact mhE ..
  have h1:s.drop k=x::(l++r):=by rw[h,hw0];rfl
  obtain⟨a1,a2,a3⟩:=dT h1;obtain⟨q1,q2,q3,q4,q5,q6,q7⟩:=aD0 (hw x hx);have d1:decide ((x.toNat:Int)=40)=false:=by simpa [u8]using q1
  have d2:decide ((x.toNat:Int)=41)=false:=by simpa [u8]using q2
  have d3:decide ((x.toNat:Int)=39)=false:=by simpa [u8]using q3
  have d4:decide ((x.toNat:Int)=34)=false:=by simpa [u8]using q4
  have d5:decide ((x.toNat:Int)=124)=false:=by simpa [u8]using q6
  have d6:csI (x.toNat:Int)=true:=hw x hx;have hwd:=Wd_ok (n:=n) hb hL h hw (fun y hy=>(hr y hy).1)
  have hsl:=slc_nat h (by omega)
  have hhs:CTp (L+1) (n+2) 89 [yT s,yI ((k+w.length:Nat):Int),⟨.int .u8,(58:Int)⟩,⟨.int .u8,(58:Int)⟩]=some [yB false]:=by
   refine has_no hb (by omega) (fun y hy=>?_) (L+1) (n+1)
   have:s.drop (k+w.length)=r:=by rw[←List.drop_drop,h];simp
   rw[←List.head?_drop,this]at hy;exact(hr y hy).2
  show CTp (L+1) (n+2+1) 68 _=_;rw[c68,F68,aEK,cX,a1,oN,d1,bX,d2,bX,d3,bX,d4,bX,d5,bX,Cs_ok,oT,d6];simp only[bnT,bX];rw[hwd,obL_i];show ob (slc s (k:Int) ((k+w.length:Nat):Int)) _=_;rw[hsl,oN,hhs,oT,bX];rcases hk with⟨rfl,hn⟩|⟨rfl,x',l',e1,e2,e3,e4,e5⟩
  ·rw[hn.a,obL_nm];have e4:decide (w=([46]:List UInt8))=false:=by
    cases hd:decide (w=([46]:List UInt8))with
    |false=>rfl
    |true=>
     exfalso;simp only[djE]at hd;have h2:=hn.a;rw[hd]at h2;rw[Nm_no (x:=46) (w:=[]) (by decide) (by decide)]at h2
     cases h2
   rw[e4,bX];simp only[eT];rw[hn.b,obL_s];show cnd (decide (([49]:List UInt8)=[48])) _ _=_;rw[show decide (([49]:List UInt8)=[48])=false by decide,bX,hn.d,obL_s,obL_s]
   show obL (D:=U0.D) [.str,.str] (CTp (L+1) (n+2) 87 [yT w,yT [49]]) _=_;rw[hn.e,obL_s2];show obL (D:=U0.D) [.int .i64] (CTp (L+1) (n+2) 97 [yT w]) _=_;rw[hn.f,obL_i];show cnd (decide ((100:Int)<1)) _ _=_;rw[show decide ((100:Int)<1)=false by decide,bX]
   show obL (D:=U0.D) [.int .i64] (CTp (L+1) (n+2) 97 [yT [49]]) _=_;rw[hn.g,obL_i];rfl
  ·rw[e1,Nm_no e2 e3,←e1,obL_nm];have e6:decide (w=([46]:List UInt8))=false:=by simpa using e4
   rw[e6,bX];simp only[bX];rw[Nd_ok e5,obL_se];rfl
theorem On_op{s r:List UInt8}{k L n:Nat}(hb:s.length<1000000000)(h:s.drop k=40::r):CTp L (n+1) 68 [yT s,yI (k:Int)]=some [yR 22 ⟨1,(k:Int),[],[],[]⟩,yI ((k+1:Nat):Int),yR 20 ⟨0,0⟩]:=by
 obtain⟨a1,a2,a3⟩:=dT h;rw[c68,F68,aEK,cX,a1,oN,oP (by omega)]
 rfl
theorem On_cl{s r:List UInt8}{k L n:Nat}(hb:s.length<1000000000)(h:s.drop k=41::r):CTp L (n+1) 68 [yT s,yI (k:Int)]=some [yR 22 ⟨2,(k:Int),[],[],[]⟩,yI ((k+1:Nat):Int),yR 20 ⟨0,0⟩]:=by
 obtain⟨a1,a2,a3⟩:=dT h;rw[c68,F68,aEK,cX,a1,oN,oP (by omega)]
 rfl
end Go.TV
namespace Go.TV
open Go.AI Go.PI Go.Proofs
inductive It where
 |op
 |cl
 |wd (nu:Bool) (w:List UInt8)
def It.by':It→List UInt8
 | .op=>[40]
 | .cl=>[41]
 | .wd _ w=>w
def It.tk(p:Nat):It→G.K
 | .op=>⟨1,(p:Int),[],[],[]⟩
 | .cl=>⟨2,(p:Int),[],[],[]⟩
 | .wd nu w=>wtk nu (p:Int) w
abbrev Its:=List (List UInt8×It)
def vN:Its→List UInt8→List UInt8
 |[],tl=>tl
 |(b,t)::l,tl=>b++(t.by'++vN l tl)
def tks:Nat→Its→List G.K
 |_,[]=>[]
 |p,(b,t)::l=>t.tk (p+b.length)::tks (p+b.length+t.by'.length) l
def isN:List UInt8→Bool
 |[48]=>true
 |[49]=>true
 |[45,49]=>true
 |_=>false
def okW(nu:Bool):List UInt8→Bool
 |[]=>false
 |x::l=>(x::l).all (fun x=>csI (u8 x))&& !decide (u8 x=35)&&(bif nu then isN (x::l)else !decide (u8 x=45)&&(decide (u8 x<48)||decide (57<u8 x))&& !decide (x::l=[46])&&Nat.ble (x::l).length 40)
def stp:List UInt8→Bool
 |[]=>true
 |y::_=> !csI (u8 y)&& !decide (u8 y=58)
def okT(r:List UInt8):It→Bool
 | .wd nu w=>okW nu w&&stp r
 |_=>true
def okL:Its→List UInt8→Bool
 |[],tl=>tl.all fun x=>blI (u8 x)
 |(b,t)::l,tl=>(b.all fun x=>blI (u8 x))&&okT (vN l tl) t&&okL l tl
theorem stp_h{r:List UInt8}(h:stp r=true): ∀y,r.head?=some y→csI (u8 y)=false∧u8 y≠58:=by
 intro y hy;cases r with
 |nil=>cases hy
 |cons z r=>
  simp only[List.head?_cons,ojE]at hy;subst hy;simpa [stp]using h
theorem bl_cs{x:Int}(h:csI x=true):blI x=false:=by
 simp only[csI,bjE,djE]at h;simp only[blI,Bool.or_eq_false_iff,dfN];omega
theorem okT_h{t:It}{r:List UInt8}(h:okT r t=true): ∀y,(t.by'++r).head?=some y→blI (u8 y)=false∧u8 y≠59∧u8 y≠35:=by
 intro y hy;cases t with
 |op=>simp[It.by']at hy;subst hy;decide
 |cl=>simp[It.by']at hy;subst hy;decide
 |wd nu w=>
  cases w with
  |nil=>simp[okT,okW]at h
  |cons x l=>
   simp[It.by']at hy;subst hy
   simp only[okT,okW,bjE,alC,Bool.not_eq_true',dfN]at h;exact⟨bl_cs h.1.1.1.1,(aD0 h.1.1.1.1).2.2.2.2.1,h.1.1.2⟩
theorem One_ok{s r:List UInt8}{t:It}{k L n:Nat}(hN: ∀w,isN w=true→NumW (CTp L (n+2)) w)(hb:s.length<1000000000)(hL:s.length<L)(h:s.drop k=t.by'++r)(ht:okT r t=true):
    CTp L (n+3) 68 [yT s,yI (k:Int)]=some [yR 22 (t.tk k),yI ((k+t.by'.length:Nat):Int),yR 20 ⟨0,0⟩]:=by
 cases t with
 |op=>exact On_op hb h
 |cl=>exact On_cl hb h
 |wd nu w=>
  cases w with
  |nil=>simp[okT,okW]at ht
  |cons x l=>
   simp only[okT,okW,bjE,Bool.not_eq_true',dfN]at ht;obtain⟨⟨⟨h1,h2⟩,h3⟩,h4⟩:=ht;refine On_w hb hL h (by simp) (fun y hy=>List.all_eq_true.1 h1 y hy) (stp_h h4) ?_
   cases nu with
   |true=>exact .inl ⟨rfl,hN _ h3⟩
   |false=>
    simp only[cdf,bjE,Bool.or_eq_true,Bool.not_eq_true',dfN,djE]at h3;exact .inr ⟨rfl,x,l,rfl,h3.1.1.1,h3.1.1.2,h3.1.2,Nat.le_of_ble_eq_true h3.2⟩
theorem Tk_loop{s tl:List UInt8}{L n:Nat}{er:G.X}(hN: ∀w,isN w=true→NumW (CTp L (n+2)) w)(hb:s.length<6001)(hL:s.length<L):
    ∀(l:Its) (k m:Nat) (acc:List G.K),s.drop k=vN l tl→k≤s.length→okL l tl=true→l.length<m→acc.length≤k→yC (CTp L (n+3)) L m (k:Int) s acc er=some [yS 22 (acc++tks k l++ [⟨0,(s.length:Int),[],[],[]⟩]),yR 20 ⟨0,0⟩]:=by
 intro l;induction l with
 |nil=>
  intro k m acc h1 h2 h3 h4 h5;obtain⟨m,rfl⟩: ∃m',m=m'+1:=⟨m-1,by simp at h4;omega⟩
  have hl:=congrArg List.length h1;simp[vN]at hl;have hsk:=Sk_ok (s:=s) (w:=tl) (r:=[]) (k:=k) (L:=L) (n:=n+1) (by omega) hL (by simpa [vN]using h1) (fun x hx=>List.all_eq_true.1 h3 x hx) (by simp)
  have e1:((k+tl.length:Nat):Int)=(s.length:Int):=by omega
  rw[yC,B56x1,hsk,obL_ib];simp only[bnT,bX];rw[e1];simp only[Int.le_refl,decide_true,eT];have e2:Nat.ble ((acc.length+([⟨0,(s.length:Int),[],[],[]⟩]:List G.K).length)*64) 1073741824=true:=by
   rw[Nat.ble_eq];simp only[lcS,lnN];omega
  rw[e2,chk_t,show tks k []=[] from rfl,apN];rfl
 |cons bt l ih=>
  obtain⟨b,t⟩:=bt;intro k m acc h1 h2 h3 h4 h5;obtain⟨m,rfl⟩: ∃m',m=m'+1:=⟨m-1,by simp at h4;omega⟩
  simp only[okL,bjE]at h3;obtain⟨⟨h6,h7⟩,h8⟩:=h3;have hl:=congrArg List.length h1;simp[vN]at hl;have ht:1≤t.by'.length:=by
   cases t with
   |op=>exact nlR _
   |cl=>exact nlR _
   |wd nu w=>cases w with
    |nil=>simp[okT,okW]at h7
    |cons x l=>simp[It.by']
  have hsk:=Sk_ok (s:=s) (w:=b) (r:=t.by'++vN l tl) (k:=k) (L:=L) (n:=n+1) (by omega) hL h1 (fun x hx=>List.all_eq_true.1 h6 x hx) (okT_h h7)
  have hd:s.drop (k+b.length)=t.by'++vN l tl:=by rw[←List.drop_drop,h1];simp[vN]
  have ho:=One_ok (n:=n) hN (by omega) hL hd h7
  have hd2:s.drop (k+b.length+t.by'.length)=vN l tl:=by rw[←List.drop_drop,hd];simp
  rw[yC,B56x1,hsk,obL_ib];simp only[bnT,bX];have e1:decide ((s.length:Int)≤((k+b.length:Nat):Int))=false:=by simp only[dfN];omega
  rw[e1,bX,ho,obL_on];simp only[decide_true,bnT,bX];have e2:Nat.ble ((acc.length+([t.tk (k+b.length)]:List G.K).length)*64) 1073741824=true:=by
   rw[Nat.ble_eq];simp only[lcS,lnN];omega
  rw[e2,chk_t,ih (k+b.length+t.by'.length) m _ hd2 (by omega) h8 (by simp at h4;omega) (by simp;omega)]
  simp[tks]
theorem Tok_ok{l:Its}{tl:List UInt8}{L n:Nat}(hN: ∀w,isN w=true→NumW (CTp L (n+2)) w)(hs:(vN l tl).length<6001)(hL:(vN l tl).length<L)(hl:l.length<L)(ho:okL l tl=true):
    CTp L (n+4) 56 [yT (vN l tl)]=some [yS 22 (tks 0 l++ [⟨0,((vN l tl).length:Int),[],[],[]⟩]),yR 20 ⟨0,0⟩]:=by
 show CTp L (n+3+1) 56 _=_;have e1:decide ((6000:Int)<((vN l tl).length:Int))=false:=by simp only[dfN];omega
 rw[c56,F56,B56x0,e1,bX];exact Tk_loop (tl:=tl) (er:=⟨0,0⟩) hN hs hL l 0 L [] rfl (Nat.zero_le _) ho hl (nlR _)
end Go.TV
namespace Go.TV
open Go.AI Go.PI Go.Proofs
set_option maxRecDepth 20000
def oW:List UInt8:=[108,105,115,112]
def oSy(s:List UInt8):G.O:=⟨2,[],[],⟨oW,s⟩,[],[]⟩
def oNu(s:List UInt8):G.O:=⟨1,s,[49],⟨[],[]⟩,[],[]⟩
def ol:List G.O→G.O
 |[]=>oSy [110,105,108]
 |x::l=>⟨4,[],[],⟨[],[]⟩,[],[x,ol l]⟩
def tkP(p:Int):G.K:=⟨1,p,[],[],[]⟩
def tkC(p:Int):G.K:=⟨2,p,[],[],[]⟩
def y0a:List UInt8:=[43]
def w0a:G.O:=oSy y0a
def y1a:List UInt8:=[45,49]
def w1a:G.O:=oNu y1a
def y2a:List UInt8:=[48]
def w2a:G.O:=oNu y2a
def y3a:List UInt8:=[49]
def w3a:G.O:=oNu y3a
def y4a:List UInt8:=[60]
def w4a:G.O:=oSy y4a
def y5a:List UInt8:=[97]
def w5a:G.O:=oSy y5a
def y6a:List UInt8:=[97,110,100]
def w6a:G.O:=oSy y6a
def y7a:List UInt8:=[97,112,112,101,110,100]
def w7a:G.O:=oSy y7a
def y8a:List UInt8:=[97,115,115,111,99,45,101,113,117,97,108]
def w8a:G.O:=oSy y8a
def y9a:List UInt8:=[97,116,111,109]
def w9a:G.O:=oSy y9a
def y10a:List UInt8:=[98,105,110,97,114,121,45,97,112,112,101,110,100]
def w10a:G.O:=oSy y10a
def y11a:List UInt8:=[98,111,111,108,101,97,110,112]
def w11a:G.O:=oSy y11a
def y12a:List UInt8:=[99,97,114]
def yM:G.O:=oSy y12a
def y13a:List UInt8:=[99,100,114]
def aBM:G.O:=oSy y13a
def y14a:List UInt8:=[99,111,110,100]
def w14a:G.O:=oSy y14a
def y15a:List UInt8:=[99,111,110,115]
def w15a:G.O:=oSy y15a
def y16a:List UInt8:=[99,111,110,115,112]
def sU:G.O:=oSy y16a
def y17a:List UInt8:=[99,111,117,110,116]
def aBL:G.O:=oSy y17a
def y18a:List UInt8:=[100,101,102,117,110]
def kW:G.O:=oSy y18a
def y19a:List UInt8:=[101]
def w19a:G.O:=oSy y19a
def y20a:List UInt8:=[101,110,100,112]
def w20a:G.O:=oSy y20a
def y21a:List UInt8:=[101,113,117,97,108]
def w21a:G.O:=oSy y21a
def y22a:List UInt8:=[102,105,120]
def w22a:G.O:=oSy y22a
def y23a:List UInt8:=[103,117,97,114,100]
def w23a:G.O:=oSy y23a
def y24a:List UInt8:=[105,102]
def lA:G.O:=oSy y24a
def y25a:List UInt8:=[105,102,102]
def w25a:G.O:=oSy y25a
def y26a:List UInt8:=[105,102,105,120]
def w26a:G.O:=oSy y26a
def y27a:List UInt8:=[105,109,112,108,105,101,115]
def w27a:G.O:=oSy y27a
def y28a:List UInt8:=[105,110,116,101,103,101,114,112]
def w28a:G.O:=oSy y28a
def y29a:List UInt8:=[107]
def w29a:G.O:=oSy y29a
def y30a:List UInt8:=[108,101,110]
def w30a:G.O:=oSy y30a
def y31a:List UInt8:=[108,105,115,116]
def w31a:G.O:=oSy y31a
def y32a:List UInt8:=[109,101,97,115,117,114,101]
def aB4:G.O:=oSy y32a
def y33a:List UInt8:=[109,101,109,98,101,114,45,101,113,117,97,108]
def w33a:G.O:=oSy y33a
def y34a:List UInt8:=[110]
def w34a:G.O:=oSy y34a
def y35a:List UInt8:=[110,97,116,112]
def w35a:G.O:=oSy y35a
def y36a:List UInt8:=[110,102,105,120]
def w36a:G.O:=oSy y36a
def y37a:List UInt8:=[110,105,108]
def aAZ:G.O:=oSy y37a
def y38a:List UInt8:=[110,111,116]
def w38a:G.O:=oSy y38a
def y39a:List UInt8:=[110,116,104]
def w39a:G.O:=oSy y39a
def y40a:List UInt8:=[111,45,102,105,110,112]
def w40a:G.O:=oSy y40a
def y41a:List UInt8:=[111,45,102,105,114,115,116,45,99,111,101,102,102,105,99,105,101,110,116]
def w41a:G.O:=oSy y41a
def y42a:List UInt8:=[111,45,102,105,114,115,116,45,101,120,112,111,110,101,110,116]
def w42a:G.O:=oSy y42a
def y43a:List UInt8:=[111,45,112]
def w43a:G.O:=oSy y43a
def y44a:List UInt8:=[111,45,114,101,115,116]
def w44a:G.O:=oSy y44a
def y45a:List UInt8:=[111,60]
def w45a:G.O:=oSy y45a
def y46a:List UInt8:=[111,114]
def w46a:G.O:=oSy y46a
def y47a:List UInt8:=[112]
def w47a:G.O:=oSy y47a
def y48a:List UInt8:=[112,111,115,112]
def w48a:G.O:=oSy y48a
def y49a:List UInt8:=[113]
def w49a:G.O:=oSy y49a
def y50a:List UInt8:=[114,97,116,105,111,110,97,108,112]
def w50a:G.O:=oSy y50a
def y51a:List UInt8:=[114,101,118]
def w51a:G.O:=oSy y51a
def y52a:List UInt8:=[115,121,110,116,97,120,112]
def w52a:G.O:=oSy y52a
def y53a:List UInt8:=[116]
def aBK:G.O:=oSy y53a
def y54a:List UInt8:=[116,114,117,101,45,108,105,115,116,112]
def w54a:G.O:=oSy y54a
def y55a:List UInt8:=[117,112,100,97,116,101,45,110,116,104]
def w55a:G.O:=oSy y55a
def y56a:List UInt8:=[118]
def w56a:G.O:=oSy y56a
def mC:List UInt8:=[120]
def bB:G.O:=oSy mC
def y58a:List UInt8:=[121]
def aBJ:G.O:=oSy y58a
def y59a:List UInt8:=[122,112]
def w59a:G.O:=oSy y59a
def wdL:List (List UInt8):=[y0a,y1a,y2a,y3a,y4a,y5a,y6a,y7a,y8a,y9a,y10a,y11a,y12a,y13a,y14a,y15a,y16a,y17a,y18a,y19a,y20a,y21a,y22a,y23a,y24a,y25a,y26a,y27a,y28a,y29a,y30a,y31a,y32a,y33a,y34a,y35a,y36a,y37a,y38a,y39a,y40a,y41a,y42a,y43a,y44a,y45a,y46a,y47a,y48a,y49a,y50a,y51a,y52a,y53a,y54a,y55a,y56a,mC,y58a,y59a]
def tkM:Nat→Nat→Nat→List G.K
 |0,_,_=>[]
 |f+1,p,n=>bif Nat.beq (n%64) 0 then tkP ((p+n/64%64:Nat):Int)::tkM f (p+n/64%64+1) (n/4096)
  else bif Nat.beq (n%64) 1 then tkC ((p+n/64%64:Nat):Int)::tkM f (p+n/64%64+1) (n/4096)
  else match wdL[n%64-2]? with
   |some w=>wtk (isN w) ((p+n/64%64:Nat):Int) w::tkM f (p+n/64%64+w.length) (n/4096)
   |none=>[]
def toksL:List G.K:=tkM 942 0 0x100100100100107b00f04007a00106404300204003904000107b00e04001104000100107b00f04007a01104000106403d04001a0c000100106402604002204000100100107b03804000106402504000804001904000107b07a02404007901404000100100100107b00f04000106404300204002904000107b00e04000106403d04001a0c000100106402604002204000100100107b03804000106402504000804001904000107b02404006901404000100100100100104700f04005f00a04003724000100104700e04000100100100104700e04000e04005f01704000100104700e0400120400080002400010670010010470120400280000400100c000100104701304002204000104701f04004a01404000100106700100100107b00f04005502304007b00100107b00e04005501704001a04000107b01204001a0c000100107b01304002204000100107b03804001904000107b01504006301404000100106700100100107b00e04002104000100107b00f04003504000904000107b01204001a0c000100107b01304002204000103b04007501404000100107c00100107c00107b00f04000c04000107b00e04001104000107b01204001a0c000100107b01304002204000100107b03804001904000107c03b04004c01404000100100106707b01704000100107b00f04003804000107b01204001a04000100107b01304002204000103b04007801404000100104400100100107b00f04002004004500204000107b01204001a04000100107b01304002204000103b04006001404000100100100100107b02c04000100107b02e04002c04002f28000100107b02e04002d28000100107b02b04003228000100104400107b02c04001704002828000100107b02c04002d28000100107b00e04001204000814000107b0251c000107b02a04001a0c000100107b01304002204000103b04006d01404000100100100100107c02e04000107b02e04002f04003724000100100107c02b04000107b02b04000628000100100107c02b04000107b02b04001704002800024000100100107c02c04000107b02c04002f28000100100107c02c04000107b02c04001704002800024000106700107c02a00024000100100107c07b00604007700107c01204001a04000107b02a0000400100c000100107b01304002204000107c03b04006f01404000100104400107b00f04000107b01204001a04000103b04006e01404000100107b00100107b00e04000f04000107b01204001a04000103b04006b01404000100104400100107b00e04000e04000107b01204001a04000103b04006c01404000100100107b01204002804000103b04006a01404000100104400100100107b00f04001304000100107b00e04001304004500204000107b01204001a04000100107b01304002204000103b04005301404000100107700100107b04400604002804000107b01e04001a04000100107b02504001904000103b04007d01404000100104407b00107b02504001a04000103b04006601404000100106700107b04400604000107b01e04001a04000103b04007201404000100106700100104407b00604002804000107b01e04001a04000103b04006501404000100104407b00107b01e04001a04000103b04005c01404000100104407b00107b03404001a04000103b04005801404000100100107b01204002804000100100106707b01704000107b01204003004001904000103b04005601404000100100107b01204002804000103b04004b01404000107700103b04007601404000100100106707b01704007700107707b01704001a04000103b04004d01404000100100107706707301a04000106707707301a04007101a04000107303104005b01404000100107700106707707301a04007101a04000107303104005d01404000100107706707101a040001031040068014000++ [⟨0,2580,[],[],[]⟩]
def o0a:G.O:=ol [kW,w38a,ol [w47a],ol [lA,w47a,aAZ,aBK]]
def o1a:G.O:=ol [kW,w27a,ol [w47a,w49a],ol [lA,w47a,ol [lA,w49a,aBK,aAZ],aBK]]
def o2a:G.O:=ol [kW,w25a,ol [w47a,w49a],ol [lA,w47a,ol [lA,w49a,aBK,aAZ],ol [lA,w49a,aAZ,aBK]]]
def o3a:G.O:=ol [kW,w11a,ol [bB],ol [lA,ol [w21a,bB,aBK],aBK,ol [w21a,bB,aAZ]]]
def o4a:G.O:=ol [kW,w52a,ol [bB],aBK]
def o5a:G.O:=ol [kW,w9a,ol [bB],ol [w38a,ol [sU,bB]]]
def o6a:G.O:=ol [kW,w20a,ol [bB],ol [w23a,ol [w46a,ol [sU,bB],ol [w21a,bB,aAZ]]],ol [w38a,ol [sU,bB]]]
def o7a:G.O:=ol [kW,w22a,ol [bB],ol [lA,ol [w50a,bB],bB,w2a]]
def o8a:G.O:=ol [kW,w26a,ol [bB],ol [lA,ol [w28a,bB],bB,w2a]]
def o9a:G.O:=ol [kW,w35a,ol [bB],ol [lA,ol [w28a,bB],ol [w38a,ol [w4a,bB,w2a]],aAZ]]
def o10a:G.O:=ol [kW,w48a,ol [bB],ol [lA,ol [w28a,bB],ol [w4a,w2a,bB],aAZ]]
def o11a:G.O:=ol [kW,w36a,ol [bB],ol [lA,ol [w35a,bB],bB,w2a]]
def o12a:G.O:=ol [kW,w59a,ol [bB],ol [w23a,ol [w35a,bB]],ol [lA,ol [w28a,bB],ol [w38a,ol [w4a,w2a,bB]],aBK]]
def o13a:G.O:=ol [kW,aBL,ol [bB],ol [aB4,ol [aBL,bB]],ol [lA,ol [sU,bB],ol [w0a,w3a,ol [aBL,ol [yM,bB]],ol [aBL,ol [aBM,bB]]],w2a]]
def o14a:G.O:=ol [kW,w40a,ol [bB],ol [w38a,ol [sU,bB]]]
def o15a:G.O:=ol [kW,w42a,ol [bB],ol [lA,ol [sU,bB],ol [yM,ol [yM,bB]],w2a]]
def o16a:G.O:=ol [kW,w41a,ol [bB],ol [lA,ol [sU,bB],ol [aBM,ol [yM,bB]],bB]]
def o17a:G.O:=ol [kW,w44a,ol [bB],ol [lA,ol [sU,bB],ol [aBM,bB],w2a]]
def o18a:G.O:=ol [kW,w45a,ol [bB,aBJ],ol [aB4,ol [aBL,bB]],ol [w14a,ol [ol [w40a,bB],ol [lA,ol [sU,aBJ],aBK,ol [w4a,bB,aBJ]]],ol [ol [w40a,aBJ],aAZ],ol [ol [w38a,ol [w21a,ol [w42a,bB],ol [w42a,aBJ]]],ol [w45a,ol [w42a,bB],ol [w42a,aBJ]]],ol [ol [w38a,ol [w21a,ol [w41a,bB],ol [w41a,aBJ]]],ol [w4a,ol [w41a,bB],ol [w41a,aBJ]]],ol [aBK,ol [w45a,ol [w44a,bB],ol [w44a,aBJ]]]]]
def o19a:G.O:=ol [kW,w43a,ol [bB],ol [aB4,ol [aBL,bB]],ol [lA,ol [w40a,bB],ol [w35a,bB],ol [w6a,ol [sU,ol [yM,bB]],ol [w43a,ol [w42a,bB]],ol [w38a,ol [w21a,ol [w42a,bB],w2a]],ol [w48a,ol [w41a,bB]],ol [w43a,ol [w44a,bB]],ol [w45a,ol [w42a,ol [w44a,bB]],ol [w42a,bB]]]]]
def o20a:G.O:=ol [kW,w30a,ol [bB],ol [aB4,ol [aBL,bB]],ol [lA,ol [sU,bB],ol [w0a,w3a,ol [w30a,ol [aBM,bB]]],w2a]]
def o21a:G.O:=ol [kW,w54a,ol [bB],ol [aB4,ol [aBL,bB]],ol [lA,ol [sU,bB],ol [w54a,ol [aBM,bB]],ol [w21a,bB,aAZ]]]
def o22a:G.O:=ol [kW,w10a,ol [bB,aBJ],ol [w23a,ol [w54a,bB]],ol [aB4,ol [aBL,bB]],ol [lA,ol [sU,bB],ol [w15a,ol [yM,bB],ol [w10a,ol [aBM,bB],aBJ]],aBJ]]
def o23a:G.O:=ol [kW,w51a,ol [bB],ol [aB4,ol [aBL,bB]],ol [lA,ol [sU,bB],ol [w7a,ol [w51a,ol [aBM,bB]],ol [w31a,ol [yM,bB]]],aAZ]]
def o24a:G.O:=ol [kW,w33a,ol [w19a,bB],ol [w23a,ol [w54a,bB]],ol [aB4,ol [aBL,bB]],ol [lA,ol [sU,bB],ol [lA,ol [w21a,w19a,ol [yM,bB]],bB,ol [w33a,w19a,ol [aBM,bB]]],aAZ]]
def o25a:G.O:=ol [kW,w8a,ol [w29a,w5a],ol [aB4,ol [aBL,w5a]],ol [w14a,ol [ol [w38a,ol [sU,w5a]],aAZ],ol [ol [w6a,ol [sU,ol [yM,w5a]],ol [w21a,w29a,ol [yM,ol [yM,w5a]]]],ol [yM,w5a]],ol [aBK,ol [w8a,w29a,ol [aBM,w5a]]]]]
def o26a:G.O:=ol [kW,w39a,ol [w34a,bB],ol [w23a,ol [w6a,ol [w35a,w34a],ol [w54a,bB]]],ol [aB4,ol [w36a,w34a]],ol [lA,ol [w59a,w34a],ol [yM,bB],ol [w39a,ol [w0a,w1a,w34a],ol [aBM,bB]]]]
def o27a:G.O:=ol [kW,w55a,ol [w34a,w56a,bB],ol [w23a,ol [w6a,ol [w35a,w34a],ol [w54a,bB]]],ol [aB4,ol [w36a,w34a]],ol [lA,ol [w59a,w34a],ol [w15a,w56a,ol [aBM,bB]],ol [w15a,ol [yM,bB],ol [w55a,ol [w0a,w1a,w34a],w56a,ol [aBM,bB]]]]]
def oAll:List G.O:=[o0a,o1a,o2a,o3a,o4a,o5a,o6a,o7a,o8a,o9a,o10a,o11a,o12a,o13a,o14a,o15a,o16a,o17a,o18a,o19a,o20a,o21a,o22a,o23a,o24a,o25a,o26a,o27a]
def spW:List UInt8→List UInt8×List UInt8
 |[]=>([],[])
 |x::l=>bif csI (u8 x)then(x::(spW l).1,(spW l).2)else([],x::l)
def spB:List UInt8→List UInt8×List UInt8
 |[]=>([],[])
 |x::l=>bif blI (u8 x)then(x::(spB l).1,(spB l).2)else([],x::l)
def lexI:Nat→List UInt8→Its×List UInt8
 |0,l=>([],l)
 |n+1,l=>match spB l with
  |(b,[])=>([],b)
  |(b,x::r)=>bif Nat.beq x.toNat 40 then((b,.op)::(lexI n r).1,(lexI n r).2)else bif Nat.beq x.toNat 41 then((b,.cl)::(lexI n r).1,(lexI n r).2)else
   match spW (x::r)with
   |(w,r')=>((b,.wd (isN w) w)::(lexI n r').1,(lexI n r').2)
end Go.TV
namespace Go.TV
open Go.AI Go.PI Go.Proofs
set_option maxRecDepth 20000
def zTe:G.T:=⟨0,⟨[],[]⟩,⟨0,[],[],⟨[],[]⟩,[],[]⟩,[]⟩
abbrev T3:=G.T×G.T×G.T
abbrev Sk:=List UInt8×List (List UInt8)
def enE(s:Sk)(x:T3):G.E:=G.E.mk 3 ⟨oW,s.1⟩ ⟨[],[]⟩ ⟨⟨[],[]⟩,[],false,zTe⟩ [⟨⟨oW,s.1⟩,s.2.map (fun p=>⟨oW,p⟩),1,x.1,x.2.1,x.2.2⟩] [] [] [] ⟨⟨[],[]⟩,[]⟩ [] [] [] [] 0
def enB(s:Sk):G.E→Bool
 |⟨k,n,⟨[],[]⟩,⟨⟨[],[]⟩,[],false,⟨bk,⟨[],[]⟩,⟨ok,[],[],⟨[],[]⟩,[],[]⟩,[]⟩⟩,[⟨fn,ps,cl,_,_,_⟩],[],[],[],⟨⟨[],[]⟩,[]⟩,[],[],[],[],h⟩=>decide (k=3)&&decide (n=⟨oW,s.1⟩)&&decide (bk=0)&&decide (ok=0)&&decide (fn=⟨oW,s.1⟩)&&decide (cl=1)&&decide (h=0)&&decide (ps=s.2.map (fun p=>⟨oW,p⟩))
 |_=>false
theorem enB_ok{s:Sk}{e:G.E}(h:enB s e=true): ∃x,e=enE s x:=by
 unfold enB at h;split at h
 ·simp only[bjE,djE]at h;obtain⟨⟨⟨⟨⟨⟨⟨rfl,rfl⟩,rfl⟩,rfl⟩,rfl⟩,rfl⟩,rfl⟩,rfl⟩:=h;exact⟨(_,_,_),rfl⟩
 ·cases h
def enR(s:Sk)(r:Rt):Bool:=match r with|some [⟨.rc 16,e⟩]=>enB s e|_=>false
theorem enR_ok{s:Sk}{r:Rt}(h:enR s r=true): ∃x,r=some [yR 16 (enE s x)]:=by
 unfold enR at h;split at h
 ·rename_i e;obtain⟨x,hx⟩:=enB_ok h;exact⟨x,by rw[hx]⟩
 ·cases h
def skL:List Sk:=[(y38a,[y47a]),(y27a,[y47a,y49a]),(y25a,[y47a,y49a]),(y11a,[mC]),(y52a,[mC]),(y9a,[mC]),(y20a,[mC]),(y22a,[mC]),(y26a,[mC]),(y35a,[mC]),(y48a,[mC]),(y36a,[mC]),(y59a,[mC]),(y17a,[mC]),(y40a,[mC]),(y42a,[mC]),(y41a,[mC]),(y44a,[mC]),(y45a,[mC,y58a]),(y43a,[mC]),(y30a,[mC]),(y54a,[mC]),(y10a,[mC,y58a]),(y51a,[mC]),(y33a,[y19a,mC]),(y8a,[y29a,y5a]),(y39a,[y34a,mC]),(y55a,[y34a,y56a,mC])]
def skA(k:Nat):Sk:=(skL[k]?).getD ([],[])
def eF(X:Nat→T3):List Sk→Nat→List G.E
 |[],_=>[]
 |s::l,j=>enE s (X j)::eF X l (j+1)
def eL(X:Nat→T3)(k:Nat):List G.E:=eF X (skL.take k) 0
def Kd:TC0:=fun i d=>bif Nat.beq i 33 then(match d with|[]=>some [⟨.sl (.rc 2),oAll⟩]|_=>none)else none
noncomputable def cD(L M k:Nat):TC0:=evB Kd (upT (L+7000) (M+99)) (L+7000) k
noncomputable def pE(L M k:Nat)(X:Nat→T3)(o:G.O):Bool:=enR (skA k) (cD L M 58 34 [yS 16 (eL X k),yR 2 o])
end Go.TV
