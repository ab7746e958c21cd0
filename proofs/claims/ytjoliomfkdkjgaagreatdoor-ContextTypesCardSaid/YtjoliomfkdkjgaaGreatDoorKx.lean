import Derived.Test.YtjoliomfkdkjgaaGreatDoorKv
import Derived.Test.YtjoliomfkdkjgaaGreatDoorKw
import Derived.Test.YtjoliomfkdkjgaaGreatDoorKo
set_option linter.unusedVariables false
set_option linter.unusedSimpArgs false
set_option linter.constructorNameAsVariable false
namespace Go.TV
open Go.AI Go.PI Go.Proofs
def blI(x:Int):Bool:=decide (x=32)||decide (x=9)||decide (x=10)||decide (x=13)
def csI(x:Int):Bool:=decide (33≤x)&&decide (x≤126)&& !decide (x=40)&& !decide (x=41)&& !decide (x=39)&& !decide (x=34)&& !decide (x=59)&& !decide (x=124)&& !decide (x=58)
def u8(x:UInt8):Int:=(x.toNat:Int)
theorem Bl_ok(x:Int)(L n:Nat):CTp L (n+1) 154 [⟨.int .u8,x⟩]=some [yB (blI x)]:=by
 rw[c154];simp only[F154,aJ9,aJN,aJ8,blI];generalize decide (x=32)=a,decide (x=9)=b,decide (x=10)=d,decide (x=13)=e;cases a<;>cases b<;>cases d<;>cases e<;>rfl
theorem Cs_ok(x:Int)(L n:Nat):CTp L (n+1) 158 [⟨.int .u8,x⟩]=some [yB (csI x)]:=by
 rw[c158];simp only[F158,aJ4,aJL,aJ3,csI];generalize decide (33≤x)=a,decide (x≤126)=b,decide (x=40)=d,decide (x=41)=e,decide (x=39)=f,decide (x=34)=g,decide (x=59)=h,decide (x=124)=i,decide (x=58)=j;cases a
 ·rfl
 cases b
 ·rfl
 cases d
 case true=>rfl
 cases e
 case true=>rfl
 cases f
 case true=>rfl
 cases g
 case true=>rfl
 cases h
 case true=>rfl
 cases i
 case true=>rfl
 cases j<;>rfl
theorem has_no{s:List UInt8}{k:Nat}{a b:Int}(hb:s.length<1000000000)(hk:k≤s.length)(h: ∀x,s[k]?=some x→u8 x≠a)(L n:Nat):CTp L (n+1) 155 [yT s,yI (k:Int),⟨.int .u8,a⟩,⟨.int .u8,b⟩]=some [yB false]:=by
 rw[c155];have e0:decide ((0:Int)≤(k:Int))=true:=by simp
 simp only[F155,aJ7,aJM,aJ6,e0,aE];cases h1:decide (IntKind.i64.wrap ((k:Int)+1)<(s.length:Int))with
 |false=>rfl
 |true=>
  rw[aE,aR];cases h2:s[k]? with
  |none=>
   exfalso;have:=List.getElem?_eq_none_iff.1 h2;simp only[djE]at h1;rw[dX (by omega)]at h1
   omega
  |some x=>
   have:=h x h2;have e1:decide ((x.toNat:Int)=a)=false:=by simpa [u8]using this
   rw[dG,e1];rfl
theorem Wd_loop{c:TC0}{L:Nat}{s r:List UInt8}(hc: ∀x,c 158 [⟨.int .u8,x⟩]=some [yB (csI x)])(hb:s.length<1000000000)(hr: ∀y,r.head?=some y→csI (u8 y)=false):
    ∀(w:List UInt8) (k m:Nat),s.drop k=w++r→w.length<m→(∀x∈w,csI (u8 x)=true)→rX c L m s (k:Int)=some [yI ((k+w.length:Nat):Int)]:=by
 intro w;induction w with
 |nil=>
  intro k m h1 h2 _;obtain⟨m,rfl⟩: ∃m',m=m'+1:=⟨m-1,by simp at h2;omega⟩
  rw[rX,aEe];rw[nlA]at h1;cases r with
  |nil=>
   have e1:=bI h1;have e3:decide ((k:Int)<(s.length:Int))=false:=by simp;omega
   rw[e3,aC,aAq,aAt,aC];rfl
  |cons y r=>
   obtain⟨a1,a2,a3⟩:=bG h1;have e3:decide ((k:Int)<(s.length:Int))=true:=by simp;omega
   have e4:csI (y.toNat:Int)=false:=hr y rfl;rw[e3,aE,aR,a1,dG,hc,bC,aAq,aAt,e4,aC];rfl
 |cons x w ih=>
  intro k m h1 h2 h3;obtain⟨m,rfl⟩: ∃m',m=m'+1:=⟨m-1,by simp at h2;omega⟩
  rw[rX,aEe];obtain⟨a1,a2,a3⟩:=bG h1;have e3:decide ((k:Int)<(s.length:Int))=true:=by simp;omega
  have e4:csI (x.toNat:Int)=true:=h3 x (mhE ..);rw[e3,aE,aR,a1,dG,hc,bC,aAq,aAt,e4,aE,dX (by omega)]
  rw[ih (k+1) m a3 (by simp at h2;omega) fun z hz=>h3 z (mtE _ hz)]
  simp only[lcS];congr 4;omega
theorem Wd_ok{s w r:List UInt8}{k L n:Nat}(hb:s.length<1000000000)(hL:s.length<L)(h:s.drop k=w++r)(hw: ∀x∈w,csI (u8 x)=true)(hr: ∀y,r.head?=some y→csI (u8 y)=false):
    CTp L (n+2) 159 [yT s,yI (k:Int)]=some [yI ((k+w.length:Nat):Int)]:=by
 have:=congrArg List.length h;simp at this;show CTp L (n+1+1) 159 _=_;rw[c159,F159,aJ2];exact Wd_loop (fun x=>Cs_ok x L n) hb hr w k L h (by omega) hw
theorem Sk_loop{c:TC0}{L:Nat}{s r:List UInt8}(hc: ∀x,c 154 [⟨.int .u8,x⟩]=some [yB (blI x)])
    (hh: ∀k:Nat,k≤s.length→(∀x,s[k]?=some x→u8 x≠35)→c 155 [yT s,yI (k:Int),⟨.int .u8,(35:Int)⟩,⟨.int .u8,(124:Int)⟩]=some [yB false])
    (hb:s.length<1000000000) (hr: ∀y,r.head?=some y→blI (u8 y)=false∧u8 y≠59∧u8 y≠35):
    ∀(w:List UInt8) (k m:Nat),s.drop k=w++r→w.length<m→(∀x∈w,blI (u8 x)=true)→nJ c L m s (k:Int)=some [yI ((k+w.length:Nat):Int),yB true]:=by
 intro w;induction w with
 |nil=>
  intro k m h1 h2 _;obtain⟨m,rfl⟩: ∃m',m=m'+1:=⟨m-1,by simp at h2;omega⟩
  rw[nJ,aEf];rw[nlA]at h1;cases r with
  |nil=>
   have e1:=bI h1;have e3:decide ((k:Int)<(s.length:Int))=false:=by simp;omega
   rw[e3,aC];rfl
  |cons y r=>
   obtain⟨a1,a2,a3⟩:=bG h1;have e3:decide ((k:Int)<(s.length:Int))=true:=by simp;omega
   obtain⟨e4,e5,e6⟩:=hr y rfl;have e4:blI (y.toNat:Int)=false:=e4;have e7:decide ((y.toNat:Int)=59)=false:=by simpa [u8]using e5
   have h8:=hh k (by omega) fun x hx=>by rw[a1]at hx;cases hx;exact e6
   rw[e3,aE,aR,a1,dG,hc,bC,e4,aC,dG,e7,aC,h8,bC,aC];rfl
 |cons x w ih=>
  intro k m h1 h2 h3;obtain⟨m,rfl⟩: ∃m',m=m'+1:=⟨m-1,by simp at h2;omega⟩
  rw[nJ,aEf];obtain⟨a1,a2,a3⟩:=bG h1;have e3:decide ((k:Int)<(s.length:Int))=true:=by simp;omega
  have e4:blI (x.toNat:Int)=true:=h3 x (mhE ..);rw[e3,aE,aR,a1,dG,hc,bC,e4,aE,dX (by omega)]
  rw[ih (k+1) m a3 (by simp at h2;omega) fun z hz=>h3 z (mtE _ hz)]
  simp only[lcS];congr 4;omega
theorem Sk_ok{s w r:List UInt8}{k L n:Nat}(hb:s.length<1000000000)(hL:s.length<L)(h:s.drop k=w++r)(hw: ∀x∈w,blI (u8 x)=true)(hr: ∀y,r.head?=some y→blI (u8 y)=false∧u8 y≠59∧u8 y≠35):
    CTp L (n+2) 126 [yT s,yI (k:Int)]=some [yI ((k+w.length:Nat):Int),yB true]:=by
 have:=congrArg List.length h;simp at this;show CTp L (n+1+1) 126 _=_;rw[c126,F126,aKa];exact Sk_loop (fun x=>Bl_ok x L n) (fun k h6 hk=>has_no hb h6 hk L n) hb hr w k L h (by omega) hw
end Go.TV
namespace Go.TV
open Go.AI Go.PI Go.Proofs
set_option maxRecDepth 20000
noncomputable section
variable(c:TC0)(e:Cu)(L:Nat)
def B94x0(c:TC0):Rt:=
 some [yS 19 ([(G.R.mk ([105,102]:List UInt8) (3:Int)),(G.R.mk ([101,113,117,97,108]:List UInt8) (2:Int)),(G.R.mk ([99,111,110,115]:List UInt8) (2:Int)),(G.R.mk ([99,97,114]:List UInt8) (1:Int)),(G.R.mk ([99,100,114]:List UInt8) (1:Int)),(G.R.mk ([99,111,110,115,112]:List UInt8) (1:Int)),(G.R.mk ([115,121,109,98,111,108,112]:List UInt8) (1:Int)),(G.R.mk ([115,116,114,105,110,103,112]:List UInt8) (1:Int)),(G.R.mk ([114,97,116,105,111,110,97,108,112]:List UInt8) (1:Int)),(G.R.mk ([105,110,116,101,103,101,114,112]:List UInt8) (1:Int)),(G.R.mk ([98,105,110,97,114,121,45,43]:List UInt8) (2:Int)),(G.R.mk ([98,105,110,97,114,121,45,42]:List UInt8) (2:Int)),(G.R.mk ([117,110,97,114,121,45,45]:List UInt8) (1:Int)),(G.R.mk ([117,110,97,114,121,45,47]:List UInt8) (1:Int)),(G.R.mk ([60]:List UInt8) (2:Int)),(G.R.mk ([110,117,109,101,114,97,116,111,114]:List UInt8) (1:Int)),(G.R.mk ([100,101,110,111,109,105,110,97,116,111,114]:List UInt8) (1:Int)),(G.R.mk ([102,108,111,111,114]:List UInt8) (1:Int)),(G.R.mk ([115,121,109,98,111,108,45,110,97,109,101]:List UInt8) (1:Int)),(G.R.mk ([115,121,109,98,111,108,45,112,97,99,107,97,103,101,45,110,97,109,101]:List UInt8) (1:Int)),(G.R.mk ([105,110,116,101,114,110]:List UInt8) (2:Int)),(G.R.mk ([115,116,114,105,110,103,45,97,112,112,101,110,100]:List UInt8) (2:Int)),(G.R.mk ([115,116,114,105,110,103,45,108,101,110,103,116,104]:List UInt8) (1:Int)),(G.R.mk ([115,116,114,105,110,103,45,98,121,116,101]:List UInt8) (2:Int)),(G.R.mk ([98,121,116,101,45,115,116,114,105,110,103]:List UInt8) (1:Int))]:List G.R)]
def V94x0(n:Nt):Rt:=n []
theorem s94x0:V94x0 (xF ii94 c e)=B94x0 c:=by kernel_rfl
def F94(c:TC0)(L:Nat):Rt:=B94x0 c
theorem e94:V94x0 (xF ii94 c (cu c L))=F94 c L:=s94x0 _ _
theorem c94(L n:Nat):CTp L (n+1) 94 []=F94 (CTp L n) L:=by rw[←e94];exact cg (x:=ii94) (by kernel_rfl) (by kernel_rfl) L n _
def q96x0(c:TC0)(e:Cu):Kt:=xK aFy
def q96x1(c:TC0)(e:Cu):Kt:=xT aFy c e [1,1] (q96x0 c e)
def q96x2(c:TC0)(e:Cu):Kt:=xT aFy c e [1,1,1] (q96x0 c e)
def q96x3(c:TC0)(e:Cu):Kt:=cU U0 0 (q96x2 c e)
def B96x0(c:TC0)(k1:Bool→G.O→G.O→Rt)(a0:G.O)(a1:G.O):Rt:=
 cnd (!decide (a0.kind=a1.kind)) (k1 true a0 a1) (cnd (!decide (a0.num=a1.num)) (k1 true a0 a1) (cnd (!decide (a0.den=a1.den)) (k1 true a0 a1) (cnd (!decide (a0.sym=a1.sym)) (k1 true a0 a1) (cnd (!decide (a0.text=a1.text)) (k1 true a0 a1) (k1 (!decide ((List.length a0.pair:Int)=(List.length a1.pair:Int))) a0 a1)))))
def V96x0(n:Nt):G.O→G.O→Rt:=fun x0 x1=>n [yR 2 x0,yR 2 x1]
def B96x1(c:TC0)(e2:Int→G.O→G.O→Rt)(a47:Bool)(b102:G.O)(b103:G.O):Rt:=
 cnd a47 (some [yB false]) (e2 (0:Int) b102 b103)
def V96x1(n:Nt):Bool→G.O→G.O→Rt:=fun x0 x1 x2=>n [yB x0,yR 2 x1,yR 2 x2]
def X96x1:=V96x1 (xD aFy e [1,0,1,0] aHo (q96x1 c e))
def B96x2(c:TC0)(n2:Int→G.O→G.O→Rt)(a5:Int)(b102:G.O)(b103:G.O):Rt:=
 cnd (decide (a5<(List.length b102.pair:Int))) (ob (idx b102.pair a5) fun v0=>
 ob (idx b103.pair a5) fun v1=>
 obL [.bool] (c 96 [yR 2 v0,yR 2 v1]) fun(r2:Bool×Unit)=>
 cnd (!r2.1) (some [yB false]) (n2 (IntKind.i64.wrap (a5+(1:Int))) b102 b103)) (some [yB true])
def V96x2(n:Nt):Int→G.O→G.O→Rt:=fun x0 x1 x2=>n [yI x0,yR 2 x1,yR 2 x2]
def X96x2:=V96x2 (xE aFy e [1,1,0,1,0,0] zE (q96x3 c e))
theorem s96x0:V96x0 (xF aFy c e)=B96x0 c (X96x1 c e):=by kernel_rfl
theorem s96x1:V96x1 (xA aFy c e [1,0,1,0] aHo (q96x1 c e))=B96x1 c (X96x2 c e):=by kernel_rfl
theorem s96x2(n2:Nt):V96x2 (xA aFy c e [1,1,0,1,0,0] zE (lpK U0 zE n2 (q96x3 c e)))=B96x2 c (V96x2 n2):=by kernel_rfl
def aBY(c:TC0)(L:Nat):Nat→Int→G.O→G.O→Rt
 |0=>fun _ _ _=>none
 |n+1=>B96x2 c (aBY c L n)
theorem u96x2(n:Nat):V96x2 (xL aFy c L [1,1,0,1,0,0] zE (q96x3 c (cu c L)) n)=aBY c L n:=by
 induction n with
 |zero=>rfl
 |succ n ih=>rw[gC,s96x2];simp only[ih];rfl
theorem w96x2:X96x2 c (cu c L)=aBY c L L:=u96x2 c L L
def J96x1(c:TC0)(L:Nat):Bool→G.O→G.O→Rt:=B96x1 c (aBY c L L)
theorem j96x1:X96x1 c (cu c L)=J96x1 c L:=by rw[X96x1,aK,s96x1];simp only[w96x2];rfl
def F96(c:TC0)(L:Nat):G.O→G.O→Rt:=B96x0 c (J96x1 c L)
theorem e96:V96x0 (xF aFy c (cu c L))=F96 c L:=by rw[s96x0];simp only[j96x1];rfl
theorem c96(a0:G.O)(a1:G.O)(L n:Nat):CTp L (n+1) 96 [yR 2 a0,yR 2 a1]=F96 (CTp L n) L a0 a1:=by rw[←e96];exact cg (x:=aFy) (by kernel_rfl) (by kernel_rfl) L n _
def q97x0(c:TC0)(e:Cu):Kt:=xK ii97
def q97x1(c:TC0)(e:Cu):Kt:=xT ii97 c e [1,1,1] (q97x0 c e)
def q97x2(c:TC0)(e:Cu):Kt:=cU U0 0 (q97x1 c e)
def B97x0(c:TC0)(e1:List G.T→List G.T→Int→Rt)(a0:List G.T)(a1:List G.T):Rt:=
 cnd (!decide ((List.length a0:Int)=(List.length a1:Int))) (some [yB false]) (e1 a0 a1 (0:Int))
def V97x0(n:Nt):List G.T→List G.T→Rt:=fun x0 x1=>n [yS 3 x0,yS 3 x1]
def B97x1(c:TC0)(n1:List G.T→List G.T→Int→Rt)(a0:List G.T)(a1:List G.T)(a5:Int):Rt:=
 cnd (decide (a5<(List.length a0:Int))) (ob (idx a0 a5) fun v0=>
 ob (idx a1 a5) fun v1=>
 obL [.bool] (c 70 [yR 3 v0,yR 3 v1]) fun(r2:Bool×Unit)=>
 cnd (!r2.1) (some [yB false]) (n1 a0 a1 (IntKind.i64.wrap (a5+(1:Int))))) (some [yB true])
def V97x1(n:Nt):List G.T→List G.T→Int→Rt:=fun x0 x1 x2=>n [yS 3 x0,yS 3 x1,yI x2]
def X97x1:=V97x1 (xE ii97 e [1,1,0,1,0,0] zD (q97x2 c e))
theorem s97x0:V97x0 (xF ii97 c e)=B97x0 c (X97x1 c e):=by kernel_rfl
theorem s97x1(n1:Nt):V97x1 (xA ii97 c e [1,1,0,1,0,0] zD (lpK U0 zD n1 (q97x2 c e)))=B97x1 c (V97x1 n1):=by kernel_rfl
def aBX(c:TC0)(L:Nat):Nat→List G.T→List G.T→Int→Rt
 |0=>fun _ _ _=>none
 |n+1=>B97x1 c (aBX c L n)
theorem u97x1(n:Nat):V97x1 (xL ii97 c L [1,1,0,1,0,0] zD (q97x2 c (cu c L)) n)=aBX c L n:=by
 induction n with
 |zero=>rfl
 |succ n ih=>rw[gC,s97x1];simp only[ih];rfl
theorem w97x1:X97x1 c (cu c L)=aBX c L L:=u97x1 c L L
def F97(c:TC0)(L:Nat):List G.T→List G.T→Rt:=B97x0 c (aBX c L L)
theorem e97:V97x0 (xF ii97 c (cu c L))=F97 c L:=by rw[s97x0];simp only[w97x1];rfl
theorem c97(a0:List G.T)(a1:List G.T)(L n:Nat):CTp L (n+1) 97 [yS 3 a0,yS 3 a1]=F97 (CTp L n) L a0 a1:=by rw[←e97];exact cg (x:=ii97) (by kernel_rfl) (by kernel_rfl) L n _
def q98x0(c:TC0)(e:Cu):Kt:=xK ii98
def q98x1(c:TC0)(e:Cu):Kt:=cU U0 0 (q98x0 c e)
def B98x0(c:TC0)(e1:Int→List UInt8→List G.K→G.X→Rt)(a0:List UInt8):Rt:=
 cnd (decide ((6000:Int)<(List.length a0:Int))) (obL [.rc 18] (c 99 [yI (2:Int),yI (0:Int)]) fun(r0:G.X×Unit)=>
 some [yS 21 ([]:List G.K),yR 18 r0.1]) (e1 (0:Int) a0 ([]:List G.K) (G.X.mk (0:Int) (0:Int)))
def V98x0(n:Nt):List UInt8→Rt:=fun x0=>n [yT x0]
def B98x1(c:TC0)(n1:Int→List UInt8→List G.K→G.X→Rt)(a5:Int)(a0:List UInt8)(a4:List G.K)(b103:G.X):Rt:=
 obL [i6,.bool] (c 126 [yT a0,yI a5]) fun(r0:Int×Bool×Unit)=>
 cnd (!r0.2.1) (obL [.rc 18] (c 99 [yI (11:Int),yI (List.length a0:Int)]) fun(r1:G.X×Unit)=>
 some [yS 21 ([]:List G.K),yR 18 r1.1]) (cnd (decide ((List.length a0:Int)≤r0.1)) (chk (Nat.ble ((List.length a4+List.length ([(G.K.mk (0:Int) (List.length a0:Int) ([]:List UInt8) ([]:List UInt8) ([]:List UInt8))]:List G.K))*64) 1073741824)<|
 some [yS 21 (a4++([(G.K.mk (0:Int) (List.length a0:Int) ([]:List UInt8) ([]:List UInt8) ([]:List UInt8))]:List G.K)),yR 18 (G.X.mk (0:Int) (0:Int))]) (obL [.rc 21,i6,.rc 18] (c 127 [yT a0,yI r0.1]) fun(r2:G.K×Int×G.X×Unit)=>
 cnd (!decide (r2.2.2.1.err=(0:Int))) (some [yS 21 ([]:List G.K),yR 18 r2.2.2.1]) (chk (Nat.ble ((List.length a4+List.length ([r2.1]:List G.K))*64) 1073741824)<|
 n1 r2.2.1 a0 (a4++([r2.1]:List G.K)) b103)))
def V98x1(n:Nt):Int→List UInt8→List G.K→G.X→Rt:=fun x0 x1 x2 x3=>n [yI x0,yT x1,yS 21 x2,yR 18 x3]
def X98x1:=V98x1 (xE ii98 e [1,1,1,1,0,0] zC (q98x1 c e))
theorem s98x0:V98x0 (xF ii98 c e)=B98x0 c (X98x1 c e):=by kernel_rfl
theorem s98x1(n1:Nt):V98x1 (xA ii98 c e [1,1,1,1,0,0] zC (lpK U0 zC n1 (q98x1 c e)))=B98x1 c (V98x1 n1):=by kernel_rfl
def aBW(c:TC0)(L:Nat):Nat→Int→List UInt8→List G.K→G.X→Rt
 |0=>fun _ _ _ _=>none
 |n+1=>B98x1 c (aBW c L n)
theorem u98x1(n:Nat):V98x1 (xL ii98 c L [1,1,1,1,0,0] zC (q98x1 c (cu c L)) n)=aBW c L n:=by
 induction n with
 |zero=>rfl
 |succ n ih=>rw[gC,s98x1];simp only[ih];rfl
theorem w98x1:X98x1 c (cu c L)=aBW c L L:=u98x1 c L L
def F98(c:TC0)(L:Nat):List UInt8→Rt:=B98x0 c (aBW c L L)
theorem e98:V98x0 (xF ii98 c (cu c L))=F98 c L:=by rw[s98x0];simp only[w98x1];rfl
theorem c98(a0:List UInt8)(L n:Nat):CTp L (n+1) 98 [yT a0]=F98 (CTp L n) L a0:=by rw[←e98];exact cg (x:=ii98) (by kernel_rfl) (by kernel_rfl) L n _
def q100x0(c:TC0)(e:Cu):Kt:=xK sL
def q100x1(c:TC0)(e:Cu):Kt:=xT sL c e [1,1,1,1] (q100x0 c e)
def aCL(c:TC0)(e:Cu):Kt:=cU U0 0 (q100x1 c e)
def B100x0(c:TC0)(k1:Bool→Int→Int→G.P→G.K→G.O→G.O→G.X→Rt)(a1:Int)(b0:G.P):Rt:=
 ob (idx b0.t b0.pos) fun v0=>
 cnd (decide (v0.kind=(0:Int))) (obL [.rc 18] (c 99 [yI (11:Int),yI v0.pos]) fun(r1:G.X×Unit)=>
 some [yR 2 (G.O.mk (0:Int) ([]:List UInt8) ([]:List UInt8) (G.Y.mk ([]:List UInt8) ([]:List UInt8)) ([]:List UInt8) ([]:List G.O)),yR 18 r1.1,yR 22 b0]) (cnd (decide (v0.kind=(2:Int))) (k1 (decide (v0.kind=(2:Int))) v0.kind a1 b0 v0 (G.O.mk (0:Int) ([]:List UInt8) ([]:List UInt8) (G.Y.mk ([]:List UInt8) ([]:List UInt8)) ([]:List UInt8) ([]:List G.O)) (G.O.mk (0:Int) ([]:List UInt8) ([]:List UInt8) (G.Y.mk ([]:List UInt8) ([]:List UInt8)) ([]:List UInt8) ([]:List G.O)) (G.X.mk (0:Int) (0:Int))) (k1 (decide (v0.kind=(3:Int))) v0.kind a1 b0 v0 (G.O.mk (0:Int) ([]:List UInt8) ([]:List UInt8) (G.Y.mk ([]:List UInt8) ([]:List UInt8)) ([]:List UInt8) ([]:List G.O)) (G.O.mk (0:Int) ([]:List UInt8) ([]:List UInt8) (G.Y.mk ([]:List UInt8) ([]:List UInt8)) ([]:List UInt8) ([]:List G.O)) (G.X.mk (0:Int) (0:Int))))
def V100x0(n:Nt):Int→G.P→Rt:=fun x0 x1=>n [yI x0,yR 22 x1]
def B100x1(c:TC0)(k2:List UInt8→G.P→G.O→G.K→G.O→G.X→Rt)(a31:Bool)(a24:Int)(a1:Int)(b0:G.P)(b106:G.K)(b107:G.O)(b104:G.O)(b105:G.X):Rt:=
 cnd a31 (obL [.rc 18] (c 99 [yI (12:Int),yI b106.pos]) fun(r0:G.X×Unit)=>
 some [yR 2 b107,yR 18 r0.1,yR 22 b0]) (cnd (decide (a24=(5:Int))) (some [yR 2 (G.O.mk (1:Int) b106.text b106.den (G.Y.mk ([]:List UInt8) ([]:List UInt8)) ([]:List UInt8) ([]:List G.O)),yR 18 (G.X.mk (0:Int) (0:Int)),yR 22 (G.P.mk b0.l b0.current b0.t (IntKind.i64.wrap (b0.pos+(1:Int))))]) (cnd (decide (a24=(7:Int))) (obL [.rc 2] (c 51 [yT b106.text]) fun(r1:G.O×Unit)=>
 some [yR 2 r1.1,yR 18 (G.X.mk (0:Int) (0:Int)),yR 22 (G.P.mk b0.l b0.current b0.t (IntKind.i64.wrap (b0.pos+(1:Int))))]) (cnd (decide (a24=(6:Int))) (cnd (decide (b106.package=([]:List UInt8))) (k2 b0.current (G.P.mk b0.l b0.current b0.t (IntKind.i64.wrap (b0.pos+(1:Int)))) b107 b106 b104 b105) (k2 b106.package (G.P.mk b0.l b0.current b0.t (IntKind.i64.wrap (b0.pos+(1:Int)))) b107 b106 b104 b105)) (cnd (decide ((200:Int)<a1)) (obL [.rc 18] (c 99 [yI (2:Int),yI b106.pos]) fun(r2:G.X×Unit)=>
 some [yR 2 b107,yR 18 r2.1,yR 22 b0]) (cnd (decide (b106.kind=(4:Int))) (obL [.rc 2,.rc 18,.rc 22] (c 100 [yI (IntKind.i64.wrap (a1+(1:Int))),yR 22 (G.P.mk b0.l b0.current b0.t (IntKind.i64.wrap (b0.pos+(1:Int))))]) fun(r3:G.O×G.X×G.P×Unit)=>
 cnd (!decide (r3.2.1.err=(0:Int))) (some [yR 2 b107,yR 18 r3.2.1,yR 22 r3.2.2.1]) (obL [.rc 1] (c 35 [yT ([113,117,111,116,101]:List UInt8)]) fun(r4:G.Y×Unit)=>
 obL [.rc 2] (c 50 [yR 1 r4.1]) fun(r5:G.O×Unit)=>
 obL [.rc 2] (c 53 [yS 2 ([r5.1,r3.1]:List G.O)]) fun(r6:G.O×Unit)=>
 some [yR 2 r6.1,yR 18 r3.2.1,yR 22 r3.2.2.1])) (obL [.rc 2,.rc 18,.rc 22] (c 128 [yI (IntKind.i64.wrap (a1+(1:Int))),yR 22 (G.P.mk b0.l b0.current b0.t (IntKind.i64.wrap (b0.pos+(1:Int))))]) fun(r7:G.O×G.X×G.P×Unit)=>
 some [yR 2 r7.1,yR 18 r7.2.1,yR 22 r7.2.2.1]))))))
def V100x1(n:Nt):Bool→Int→Int→G.P→G.K→G.O→G.O→G.X→Rt:=fun x0 x1 x2 x3 x4 x5 x6 x7=>n [yB x0,yI x1,yI x2,yR 22 x3,yR 21 x4,yR 2 x5,yR 2 x6,yR 18 x7]
def aJk:=V100x1 (xD sL e [1,1,1,0,1,0,1,1,1,0] aBN (aCL c e))
def B100x2(c:TC0)(a8:List UInt8)(b0:G.P)(b107:G.O)(b106:G.K)(b104:G.O)(b105:G.X):Rt:=
 obL [.rc 1,i6] (c 129 [yS 5 b0.l,yT a8,yT b106.text]) fun(r0:G.Y×Int×Unit)=>
 cnd (!decide (r0.2.1=(0:Int))) (obL [.rc 18] (c 99 [yI r0.2.1,yI b106.pos]) fun(r1:G.X×Unit)=>
 some [yR 2 b107,yR 18 r1.1,yR 22 b0]) (obL [.rc 2] (c 50 [yR 1 r0.1]) fun(r2:G.O×Unit)=>
 some [yR 2 r2.1,yR 18 (G.X.mk (0:Int) (0:Int)),yR 22 b0])
def V100x2(n:Nt):List UInt8→G.P→G.O→G.K→G.O→G.X→Rt:=fun x0 x1 x2 x3 x4 x5=>n [yT x0,yR 22 x1,yR 2 x2,yR 21 x3,yR 2 x4,yR 18 x5]
def aJj:=V100x2 (xD sL e [1,1,1,0,1,0,1,1,1,0,1,1,1,1,1,1,0,1,1,1,0] aBM (aCL c e))
theorem s100x0:V100x0 (xF sL c e)=B100x0 c (aJk c e):=by kernel_rfl
theorem s100x1:V100x1 (xA sL c e [1,1,1,0,1,0,1,1,1,0] aBN (aCL c e))=B100x1 c (aJj c e):=by kernel_rfl
theorem s100x2:V100x2 (xA sL c e [1,1,1,0,1,0,1,1,1,0,1,1,1,1,1,1,0,1,1,1,0] aBM (aCL c e))=B100x2 c:=by kernel_rfl
def J100x2(c:TC0)(L:Nat):List UInt8→G.P→G.O→G.K→G.O→G.X→Rt:=B100x2 c
theorem j100x2:aJj c (cu c L)=J100x2 c L:=by rw[aJj,aK,s100x2];rfl
def J100x1(c:TC0)(L:Nat):Bool→Int→Int→G.P→G.K→G.O→G.O→G.X→Rt:=B100x1 c (J100x2 c L)
theorem j100x1:aJk c (cu c L)=J100x1 c L:=by rw[aJk,aK,s100x1];simp only[j100x2];rfl
def F100(c:TC0)(L:Nat):Int→G.P→Rt:=B100x0 c (J100x1 c L)
theorem e100:V100x0 (xF sL c (cu c L))=F100 c L:=by rw[s100x0];simp only[j100x1];rfl
theorem c100(a1:Int)(b0:G.P)(L n:Nat):CTp L (n+1) 100 [yI a1,yR 22 b0]=F100 (CTp L n) L a1 b0:=by rw[←e100];exact cg (x:=sL) (by kernel_rfl) (by kernel_rfl) L n _
def q112x0(c:TC0)(e:Cu):Kt:=xK oF
def q112x1(c:TC0)(e:Cu):Kt:=xT oF c e [1,1] (q112x0 c e)
def aCK(c:TC0)(e:Cu):Kt:=cU U0 0 (q112x1 c e)
def q112x3(c:TC0)(e:Cu)(n1:Nt):Kt:=lpK U0 oW n1 (aCK c e)
def q112x4(c:TC0)(e:Cu)(n1:Nt):Kt:=xT oF c e [1,0,1,0,0,1,1] (q112x3 c e n1)
def q112x5(c:TC0)(e:Cu)(n1:Nt):Kt:=cU U0 1 (q112x4 c e n1)
def aGs(c:TC0)(e:Cu)(n1:Nt):Kt:=cU U0 2 (q112x5 c e n1)
def aKf(c:TC0)(e1:List G.E→Int→G.Y→Rt)(a0:List G.E)(a1:G.Y):Rt:=
 e1 a0 (0:Int) a1
def V112x0(n:Nt):List G.E→G.Y→Rt:=fun x0 x1=>n [yS 15 x0,yR 1 x1]
def aEh(c:TC0)(e2:List G.F→Int→Int→List G.E→G.Y→Rt)(a0:List G.E)(a7:Int)(b103:G.Y):Rt:=
 cnd (decide (a7<(List.length a0:Int))) (ob (idx a0 a7) fun v0=>
 obL [zS 4] (c 113 [yR 15 v0]) fun(r1:List G.F×Unit)=>
 e2 r1.1 (0:Int) a7 a0 b103) (some [yI (0:Int),yI (0:Int),yB false])
def uJ(n:Nt):List G.E→Int→G.Y→Rt:=fun x0 x1 x2=>n [yS 15 x0,yI x1,yR 1 x2]
def X112x1:=uJ (xE oF e [1,0,1,0,0] oW (aCK c e))
def aEg(c:TC0)(n2:List G.F→Int→Int→List G.E→G.Y→Rt)(n1:List G.E→Int→G.Y→Rt)(a8:List G.F)(a9:Int)(a7:Int)(a0:List G.E)(b103:G.Y):Rt:=
 cnd (decide (a9<(List.length a8:Int))) (ob (idx a8 a9) fun v0=>
 cnd (decide (v0.name=b103)) (some [yI a7,yI a9,yB true]) (n2 a8 (IntKind.i64.wrap (a9+(1:Int))) a7 a0 b103)) (n1 a0 (IntKind.i64.wrap (a7+(1:Int))) b103)
def aD5(n:Nt):List G.F→Int→Int→List G.E→G.Y→Rt:=fun x0 x1 x2 x3 x4=>n [yS 4 x0,yI x1,yI x2,yS 15 x3,yR 1 x4]
def X112x2(n1:Nt):=aD5 (xE oF e [1,0,1,0,0,1,0,0,1,1,0,0] rM (aGs c e n1))
theorem s112x0:V112x0 (xF oF c e)=aKf c (X112x1 c e):=by kernel_rfl
theorem s112x1(n1:Nt):uJ (xA oF c e [1,0,1,0,0] oW (lpK U0 oW n1 (aCK c e)))=aEh c (X112x2 c e n1):=by kernel_rfl
theorem s112x2(n2:Nt)(n1:Nt):aD5 (xA oF c e [1,0,1,0,0,1,0,0,1,1,0,0] rM (lpK U0 rM n2 (aGs c e n1)))=aEg c (aD5 n2) (uJ n1):=by kernel_rfl
def rY(c:TC0)(L:Nat)(n1:List G.E→Int→G.Y→Rt):Nat→List G.F→Int→Int→List G.E→G.Y→Rt
 |0=>fun _ _ _ _ _=>none
 |n+1=>aEg c (rY c L n1 n) n1
theorem u112x2(n1:Nt)(n:Nat):aD5 (xL oF c L [1,0,1,0,0,1,0,0,1,1,0,0] rM (aGs c (cu c L) n1) n)=rY c L (uJ n1) n:=by
 induction n with
 |zero=>rfl
 |succ n ih=>rw[gC,s112x2];simp only[ih];rfl
theorem w112x2(n1:Nt):X112x2 c (cu c L) n1=rY c L (uJ n1) L:=u112x2 c L n1 L
def rZ(c:TC0)(L:Nat):Nat→List G.E→Int→G.Y→Rt
 |0=>fun _ _ _=>none
 |n+1=>aEh c (rY c L (rZ c L n) L)
theorem u112x1(n:Nat):uJ (xL oF c L [1,0,1,0,0] oW (aCK c (cu c L)) n)=rZ c L n:=by
 induction n with
 |zero=>rfl
 |succ n ih=>rw[gC,s112x1];simp only[w112x2,ih];rfl
theorem w112x1:X112x1 c (cu c L)=rZ c L L:=u112x1 c L L
def F112(c:TC0)(L:Nat):List G.E→G.Y→Rt:=aKf c (rZ c L L)
theorem e112:V112x0 (xF oF c (cu c L))=F112 c L:=by rw[s112x0];simp only[w112x1];rfl
theorem c112(a0:List G.E)(a1:G.Y)(L n:Nat):CTp L (n+1) 112 [yS 15 a0,yR 1 a1]=F112 (CTp L n) L a0 a1:=by rw[←e112];exact cg (x:=oF) (by kernel_rfl) (by kernel_rfl) L n _
def q113x0(c:TC0)(e:Cu):Kt:=xK yQ
def q113x1(c:TC0)(e:Cu):Kt:=xT yQ c e [1,1] (q113x0 c e)
def q113x2(c:TC0)(e:Cu):Kt:=cU U0 0 (q113x1 c e)
def aKe(c:TC0)(k1:Bool→G.E→Rt)(a0:G.E):Rt:=
 cnd (decide (a0.kind=(3:Int))) (k1 (decide (a0.kind=(3:Int))) a0) (cnd (decide (a0.kind=(5:Int))) (k1 (decide (a0.kind=(5:Int))) a0) (cnd (decide (a0.kind=(6:Int))) (k1 (decide (a0.kind=(6:Int))) a0) (k1 (decide (a0.kind=(7:Int))) a0)))
def V113x0(n:Nt):G.E→Rt:=fun x0=>n [yR 15 x0]
def aKd(c:TC0)(a5:Bool)(b101:G.E):Rt:=
 cnd a5 (some [yS 4 b101.functions]) (some [yS 4 ([]:List G.F)])
def V113x1(n:Nt):Bool→G.E→Rt:=fun x0 x1=>n [yB x0,yR 15 x1]
def aJi:=V113x1 (xD yQ e [1,0,1,0,1,0] aBL (q113x2 c e))
theorem s113x0:V113x0 (xF yQ c e)=aKe c (aJi c e):=by kernel_rfl
theorem s113x1:V113x1 (xA yQ c e [1,0,1,0,1,0] aBL (q113x2 c e))=aKd c:=by kernel_rfl
def aJQ(c:TC0)(L:Nat):Bool→G.E→Rt:=aKd c
theorem j113x1:aJi c (cu c L)=aJQ c L:=by rw[aJi,aK,s113x1];rfl
def F113(c:TC0)(L:Nat):G.E→Rt:=aKe c (aJQ c L)
theorem e113:V113x0 (xF yQ c (cu c L))=F113 c L:=by rw[s113x0];simp only[j113x1];rfl
theorem c113(a0:G.E)(L n:Nat):CTp L (n+1) 113 [yR 15 a0]=F113 (CTp L n) L a0:=by rw[←e113];exact cg (x:=yQ) (by kernel_rfl) (by kernel_rfl) L n _
def aKc(c:TC0)(a0:G.Y):Rt:=
 cnd (!decide (a0.package=([108,105,115,112]:List UInt8))) (some [yI (0:Int),yB false]) (cnd (decide (a0.name=([99,111,110,115,112]:List UInt8))) (some [yI (1536:Int),yB true]) (cnd (decide (a0.name=([115,121,109,98,111,108,112]:List UInt8))) (some [yI (224:Int),yB true]) (cnd (decide (a0.name=([115,116,114,105,110,103,112]:List UInt8))) (some [yI (256:Int),yB true]) (cnd (decide (a0.name=([114,97,116,105,111,110,97,108,112]:List UInt8))) (some [yI (31:Int),yB true]) (cnd (decide (a0.name=([105,110,116,101,103,101,114,112]:List UInt8))) (some [yI (7:Int),yB true]) (cnd (decide (a0.name=([110,111,116]:List UInt8))) (some [yI (32:Int),yB true]) (some [yI (0:Int),yB false])))))))
def V114x0(n:Nt):G.Y→Rt:=fun x0=>n [yR 1 x0]
theorem s114x0:V114x0 (xF ii114 c e)=aKc c:=by kernel_rfl
def F114(c:TC0)(L:Nat):G.Y→Rt:=aKc c
theorem e114:V114x0 (xF ii114 c (cu c L))=F114 c L:=s114x0 _ _
theorem c114(a0:G.Y)(L n:Nat):CTp L (n+1) 114 [yR 1 a0]=F114 (CTp L n) L a0:=by rw[←e114];exact cg (x:=ii114) (by kernel_rfl) (by kernel_rfl) L n _
def B117x0(c:TC0)(a0:G.O):Rt:=
 some [yR 3 (G.T.mk (2:Int) (G.Y.mk ([]:List UInt8) ([]:List UInt8)) a0 ([]:List G.T))]
def V117x0(n:Nt):G.O→Rt:=fun x0=>n [yR 2 x0]
theorem s117x0:V117x0 (xF ii117 c e)=B117x0 c:=by kernel_rfl
def F117(c:TC0)(L:Nat):G.O→Rt:=B117x0 c
theorem e117:V117x0 (xF ii117 c (cu c L))=F117 c L:=s117x0 _ _
theorem c117(a0:G.O)(L n:Nat):CTp L (n+1) 117 [yR 2 a0]=F117 (CTp L n) L a0:=by rw[←e117];exact cg (x:=ii117) (by kernel_rfl) (by kernel_rfl) L n _
def aKb(c:TC0):Rt:=
 obL [.rc 2] (c 148 [yR 1 (G.Y.mk ([108,105,115,112]:List UInt8) ([116]:List UInt8))]) fun(r0:G.O×Unit)=>
 some [yR 2 r0.1]
def V118x0(n:Nt):Rt:=n []
theorem s118x0:V118x0 (xF ii118 c e)=aKb c:=by kernel_rfl
def F118(c:TC0)(L:Nat):Rt:=aKb c
theorem e118:V118x0 (xF ii118 c (cu c L))=F118 c L:=s118x0 _ _
theorem c118(L n:Nat):CTp L (n+1) 118 []=F118 (CTp L n) L:=by rw[←e118];exact cg (x:=ii118) (by kernel_rfl) (by kernel_rfl) L n _
end
end Go.TV
namespace Go.TV
open Go.AI Go.PI Go.Proofs
theorem slc_nat{α:Type}{s w r:List α}{k:Nat}(h:s.drop k=w++r)(hk:k≤s.length):slc s (k:Int) ((k+w.length:Nat):Int)=some w:=by
 have hl:=congrArg List.length h;simp at hl;unfold slc;have e1:decide ((0:Int)≤(k:Int))=true:=by simp
 have e2:decide ((k:Int)≤((k+w.length:Nat):Int))=true:=by simp;omega
 have e3:decide (((k+w.length:Nat):Int)≤(s.length:Int))=true:=by simp only[djE];omega
 rw[e1,e2,e3];simp only[Bool.and_self,cdt,Int.toNat_natCast,ojE];rw[List.drop_take,h];simp
theorem obL_nm{β:Type}{a b:List UInt8}{d:Bool}{K:List UInt8×List UInt8×Bool×Unit→Option β}:obL (D:=U0.D) [.str,.str,.bool] (some [yT a,yT b,yB d]) K=K (a,b,d,()):=rfl
theorem obL_se{β:Type}{a:G.X}{K:G.X×Unit→Option β}:obL (D:=U0.D) [.rc 18] (some [yR 18 a]) K=K (a,()):=rfl
theorem eN{β:Type}{a:Int}{b:Bool}{K:Int×Bool×Unit→Option β}:obL (D:=U0.D) [.int .i64,.bool] (some [yI a,yB b]) K=K (a,b,()):=rfl
theorem jE{β:Type}{a:Int}{K:Int×Unit→Option β}:obL (D:=U0.D) [.int .i64] (some [yI a]) K=K (a,()):=rfl
theorem obL_s{β:Type}{a:List UInt8}{K:List UInt8×Unit→Option β}:obL (D:=U0.D) [.str] (some [yT a]) K=K (a,()):=rfl
theorem obL_s2{β:Type}{a b:List UInt8}{K:List UInt8×List UInt8×Unit→Option β}:obL (D:=U0.D) [.str,.str] (some [yT a,yT b]) K=K (a,b,()):=rfl
theorem obL_on{β:Type}{a:G.K}{b:Int}{d:G.X}{K:G.K×Int×G.X×Unit→Option β}:obL (D:=U0.D) [.rc 21,.int .i64,.rc 18] (some [yR 21 a,yI b,yR 18 d]) K=K (a,b,d,()):=rfl
theorem Nm_no{x:UInt8}{w:List UInt8}(h1:u8 x≠45)(h2:u8 x<48∨57<u8 x)(L n:Nat):CTp (L+1) (n+1) 161 [yT (x::w)]=some [yT [],yT [],yB false]:=by
 rw[c161];have e1:decide ((0:Int)<((x::w).length:Int))=true:=by simp
 have e2:decide ((x.toNat:Int)=45)=false:=by simpa [u8]using h1
 have e3:idx (x::w) (0:Int)=some x:=rfl;rw[F161,aJ1,e1,aE,e3,dG,e2,aJK,aJ0,aC,aJJ,aJZ,uI,aJY,e1,aE,e3,dG];have key: ∀b:Bool,b=false→aJI (CTp (L+1) n) (L+1) (uI (CTp (L+1) n) (L+1) L) b 0 (x::w) 0=some [yT [],yT [],yB false]:=by
  intro b hb;subst hb;rfl
 cases h3:decide ((48:Int)≤(x.toNat:Int))with
 |false=>exact key _ rfl
 |true=>
  rw[aE,dG];have h4:decide ((x.toNat:Int)≤(57:Int))=false:=by
   simp only[djE]at h3;simp only[dfN];simp only[u8]at h2;omega
  exact key _ h4
theorem Nd_ok{k p:Int}{w:List UInt8}(h:w.length≤40)(L n:Nat):CTp L (n+1) 157 [yR 21 ⟨k,p,[],w,[]⟩,yB false]=some [yR 18 ⟨0,0⟩]:=by
 rw[c157];have e1:decide ((40:Int)<(w.length:Int))=false:=by simp;omega
 simp only[F157,aJ5,e1,aC];rfl
structure NumW(c:TC0)(w:List UInt8):Prop where
 a:c 161 [yT w]=some [yT w,yT [49],yB true]
 b:c 162 [yT [49]]=some [yT [49]]
 d:c 162 [yT w]=some [yT w]
 e:c 83 [yT w,yT [49]]=some [yT w,yT [49]]
 f:c 163 [yT w]=some [yI 1]
 g:c 163 [yT [49]]=some [yI 1]
def SyW(w:List UInt8):Prop:= ∃x l,w=x::l∧u8 x≠45∧(u8 x<48∨57<u8 x)∧w≠ [46]∧w.length≤40
theorem aIt{x:Int}(h:csI x=true):x≠40∧x≠41∧x≠39∧x≠34∧x≠59∧x≠124∧x≠58:=by
 simp only[csI,bjE,Bool.not_eq_true',dfN]at h;obtain⟨⟨⟨⟨⟨⟨⟨_,h1⟩,h2⟩,h3⟩,h4⟩,h5⟩,h6⟩,h7⟩:=h;exact⟨h1,h2,h3,h4,h5,h6,h7⟩
def wtk(b:Bool)(p:Int)(w:List UInt8):G.K:=bif b then⟨5,p,[],w,[49]⟩else⟨6,p,[],w,[]⟩
theorem On_w{s w r:List UInt8}{k L n:Nat}{nu:Bool}(hb:s.length<1000000000)(hL:s.length<L)(h:s.drop k=w++r)(h0:w≠ [])(hw: ∀x∈w,csI (u8 x)=true)(hr: ∀y,r.head?=some y→csI (u8 y)=false∧u8 y≠58)
    (hk:(nu=true∧NumW (CTp L (n+2)) w)∨(nu=false∧SyW w)):
    CTp L (n+3) 127 [yT s,yI (k:Int)]=some [yR 21 (wtk nu (k:Int) w),yI ((k+w.length:Nat):Int),yR 18 ⟨0,0⟩]:=by
 have hl:=congrArg List.length h;simp at hl;obtain⟨L,rfl⟩: ∃L',L=L'+1:=⟨L-1,by omega⟩
 cases hw0:w with
 |nil=>exact(h0 hw0).elim
 |cons x l=>
  rw[←hw0];have hx:x∈w:=by rw[hw0];exact mhE ..
  have h1:s.drop k=x::(l++r):=by rw[h,hw0];rfl
  obtain⟨a1,a2,a3⟩:=bG h1;obtain⟨q1,q2,q3,q4,q5,q6,q7⟩:=aIt (hw x hx);have d1:decide ((x.toNat:Int)=40)=false:=by simpa [u8]using q1
  have d2:decide ((x.toNat:Int)=41)=false:=by simpa [u8]using q2
  have d3:decide ((x.toNat:Int)=39)=false:=by simpa [u8]using q3
  have d4:decide ((x.toNat:Int)=34)=false:=by simpa [u8]using q4
  have d5:decide ((x.toNat:Int)=124)=false:=by simpa [u8]using q6
  have d6:csI (x.toNat:Int)=true:=hw x hx;have hwd:=Wd_ok (n:=n) hb hL h hw (fun y hy=>(hr y hy).1)
  have hsl:=slc_nat h (by omega)
  have hhs:CTp (L+1) (n+2) 155 [yT s,yI ((k+w.length:Nat):Int),⟨.int .u8,(58:Int)⟩,⟨.int .u8,(58:Int)⟩]=some [yB false]:=by
   refine has_no hb (by omega) (fun y hy=>?_) (L+1) (n+1)
   have:s.drop (k+w.length)=r:=by rw[←List.drop_drop,h];simp
   rw[←List.head?_drop,this]at hy;exact(hr y hy).2
  show CTp (L+1) (n+2+1) 127 _=_;rw[c127,F127,aAu,aR,a1,dG,d1,aC,d2,aC,d3,aC,d4,aC,d5,aC,Cs_ok,bC,d6];simp only[bnT,aC];rw[hwd,jE];show ob (slc s (k:Int) ((k+w.length:Nat):Int)) _=_;rw[hsl,dG,hhs,bC,aC];rcases hk with⟨rfl,hn⟩|⟨rfl,x',l',e1,e2,e3,e4,e5⟩
  ·rw[hn.a,obL_nm];have e4:decide (w=([46]:List UInt8))=false:=by
    cases hd:decide (w=([46]:List UInt8))with
    |false=>rfl
    |true=>
     exfalso;simp only[djE]at hd;have h2:=hn.a;rw[hd]at h2;rw[Nm_no (x:=46) (w:=[]) (by decide) (by decide)]at h2
     cases h2
   rw[e4,aC];simp only[aE];rw[hn.b,obL_s];show cnd (decide (([49]:List UInt8)=[48])) _ _=_;rw[show decide (([49]:List UInt8)=[48])=false by decide,aC,hn.d,obL_s,obL_s]
   show obL (D:=U0.D) [.str,.str] (CTp (L+1) (n+2) 83 [yT w,yT [49]]) _=_;rw[hn.e,obL_s2];show obL (D:=U0.D) [.int .i64] (CTp (L+1) (n+2) 163 [yT w]) _=_;rw[hn.f,jE];show cnd (decide ((100:Int)<1)) _ _=_;rw[show decide ((100:Int)<1)=false by decide,aC]
   show obL (D:=U0.D) [.int .i64] (CTp (L+1) (n+2) 163 [yT [49]]) _=_;rw[hn.g,jE];rfl
  ·rw[e1,Nm_no e2 e3,←e1,obL_nm];have e6:decide (w=([46]:List UInt8))=false:=by simpa using e4
   rw[e6,aC];simp only[aC];rw[Nd_ok e5,obL_se];rfl
theorem On_op{s r:List UInt8}{k L n:Nat}(hb:s.length<1000000000)(h:s.drop k=40::r):CTp L (n+1) 127 [yT s,yI (k:Int)]=some [yR 21 ⟨1,(k:Int),[],[],[]⟩,yI ((k+1:Nat):Int),yR 18 ⟨0,0⟩]:=by
 obtain⟨a1,a2,a3⟩:=bG h;rw[c127,F127,aAu,aR,a1,dG,dX (by omega)]
 rfl
theorem On_cl{s r:List UInt8}{k L n:Nat}(hb:s.length<1000000000)(h:s.drop k=41::r):CTp L (n+1) 127 [yT s,yI (k:Int)]=some [yR 21 ⟨2,(k:Int),[],[],[]⟩,yI ((k+1:Nat):Int),yR 18 ⟨0,0⟩]:=by
 obtain⟨a1,a2,a3⟩:=bG h;rw[c127,F127,aAu,aR,a1,dG,dX (by omega)]
 rfl
end Go.TV
namespace Go.TV
open Go.AI Go.PI Go.Proofs
set_option maxRecDepth 20000
noncomputable section
variable(c:TC0)(e:Cu)(L:Nat)
def qO(c:TC0)(e:Cu):Kt:=xK kU
def q28x1(c:TC0)(e:Cu):Kt:=xT kU c e [1,1,1,0,1,1] (qO c e)
def aGl(c:TC0)(e:Cu):Kt:=xT kU c e [1,1,1,0,1,1,0,1] (qO c e)
def q28x3(c:TC0)(e:Cu):Kt:=xT kU c e [1,1,1,0,1,1,0,0,1,0,1,1] (aGl c e)
def q28x4(c:TC0)(e:Cu):Kt:=xT kU c e [1,1,1,0,1,1,0,1,0,1] (qO c e)
def q28x5(c:TC0)(e:Cu):Kt:=cU U0 0 (q28x4 c e)
def q28x6(c:TC0)(e:Cu)(n7:Nt):Kt:=lpK U0 uB n7 (q28x5 c e)
def q28x7(c:TC0)(e:Cu)(n7:Nt):Kt:=xT kU c e [1,1,1,0,1,1,0,1,0,0,1,0,1,0,0,1,1] (q28x6 c e n7)
def q28x8(c:TC0)(e:Cu)(n7:Nt):Kt:=cU U0 1 (q28x7 c e n7)
def B28x0(c:TC0)(k1:Int→Bool→G.T→G.T→Rt)(a0:G.T)(a1:G.T):Rt:=
 obL [.bool] (c 70 [yR 3 a0,yR 3 a1]) fun(r0:Bool×Unit)=>
 cnd r0.1 (k1 (IntKind.i64.wrap ((BitVec.ofInt IntKind.i64.bits (2047:Int)&&& ~~~ BitVec.ofInt IntKind.i64.bits (32:Int)).toNat:Int)) true a0 a1) (k1 (2047:Int) false a0 a1)
def V28x0(n:Nt):G.T→G.T→Rt:=fun x0 x1=>n [yR 3 x0,yR 3 x1]
def B28x1(c:TC0)(k2:Bool→Int→Int→Bool→G.T→G.T→Rt)(a6:Int)(a7:Bool)(b102:G.T)(b103:G.T):Rt:=
 cnd (!decide (b102.kind=(3:Int))) (some [yI a6,yB a7]) (obL [i6,.bool] (c 71 [yR 1 b102.name]) fun(r0:Int×Bool×Unit)=>
 cnd r0.2.1 (cnd (!decide (b102.name.name=([110,111,116]:List UInt8))) (cnd (decide ((List.length b102.args:Int)=(1:Int))) (ob (idx b102.args (0:Int)) fun v1=>
 obL [.bool] (c 70 [yR 3 v1,yR 3 b103]) fun(r2:Bool×Unit)=>
 k2 r2.1 r0.1 a6 a7 b102 b103) (k2 false r0.1 a6 a7 b102 b103)) (k2 false r0.1 a6 a7 b102 b103)) (k2 false r0.1 a6 a7 b102 b103))
def V28x1(n:Nt):Int→Bool→G.T→G.T→Rt:=fun x0 x1 x2 x3=>n [yI x0,yB x1,yR 3 x2,yR 3 x3]
def X28x1:=V28x1 (xD kU e [1,1,1,0] aIb (qO c e))
def B28x2(c:TC0)(k3:Int→Bool→G.T→G.T→Rt)(a51:Bool)(a8:Int)(a6:Int)(a7:Bool)(b102:G.T)(b103:G.T):Rt:=
 cnd a51 (k3 (IntKind.i64.wrap ((BitVec.ofInt IntKind.i64.bits a6&&&BitVec.ofInt IntKind.i64.bits a8).toNat:Int)) true b102 b103) (k3 a6 a7 b102 b103)
def V28x2(n:Nt):Bool→Int→Int→Bool→G.T→G.T→Rt:=fun x0 x1 x2 x3 x4 x5=>n [yB x0,yI x1,yI x2,yB x3,yR 3 x4,yR 3 x5]
def X28x2:=V28x2 (xD kU e [1,1,1,0,1,0,1,1,0] aIa (q28x1 c e))
def B28x3(c:TC0)(k4:Bool→Int→Bool→G.T→G.T→G.T→G.T→Rt)(k5:Int→Bool→G.T→G.T→Rt)(a6:Int)(a7:Bool)(b102:G.T)(b103:G.T):Rt:=
 obL [.bool] (c 29 [yR 3 b102,yT ([60]:List UInt8),yI (2:Int)]) fun(r0:Bool×Unit)=>
 cnd r0.1 (ob (idx b102.args (0:Int)) fun v1=>
 ob (idx b102.args (1:Int)) fun v2=>
 cnd (decide (v2.kind=(2:Int))) (obL [.bool] (c 72 [yR 2 v2.value,yT ([48]:List UInt8)]) fun(r3:Bool×Unit)=>
 cnd r3.1 (obL [.bool] (c 70 [yR 3 v1,yR 3 b103]) fun(r4:Bool×Unit)=>
 k4 r4.1 a6 a7 v1 v2 b102 b103) (k4 false a6 a7 v1 v2 b102 b103)) (k4 false a6 a7 v1 v2 b102 b103)) (k5 a6 a7 b102 b103)
def V28x3(n:Nt):Int→Bool→G.T→G.T→Rt:=fun x0 x1 x2 x3=>n [yI x0,yB x1,yR 3 x2,yR 3 x3]
def X28x3:=V28x3 (xD kU e [1,1,1,0,1,1,0] aH9 (qO c e))
def B28x4(c:TC0)(k6:Int→Bool→G.T→G.T→G.T→G.T→Rt)(a77:Bool)(a6:Int)(a7:Bool)(b110:G.T)(b111:G.T)(b102:G.T)(b103:G.T):Rt:=
 cnd a77 (k6 (IntKind.i64.wrap ((BitVec.ofInt IntKind.i64.bits a6&&&BitVec.ofInt IntKind.i64.bits (20:Int)).toNat:Int)) true b110 b111 b102 b103) (k6 a6 a7 b110 b111 b102 b103)
def V28x4(n:Nt):Bool→Int→Bool→G.T→G.T→G.T→G.T→Rt:=fun x0 x1 x2 x3 x4 x5 x6=>n [yB x0,yI x1,yB x2,yR 3 x3,yR 3 x4,yR 3 x5,yR 3 x6]
def X28x4:=V28x4 (xD kU e [1,1,1,0,1,1,0,0,1,0,1,0,1,0] aH8 (q28x3 c e))
def B28x5(c:TC0)(e7:Int→Int→Bool→G.T→G.T→Rt)(k8:Int→Bool→Rt)(a6:Int)(a7:Bool)(b102:G.T)(b103:G.T):Rt:=
 obL [.bool] (c 29 [yR 3 b102,yT ([101,113,117,97,108]:List UInt8),yI (2:Int)]) fun(r0:Bool×Unit)=>
 cnd r0.1 (e7 (0:Int) a6 a7 b102 b103) (k8 a6 a7)
def V28x5(n:Nt):Int→Bool→G.T→G.T→Rt:=fun x0 x1 x2 x3=>n [yI x0,yB x1,yR 3 x2,yR 3 x3]
def X28x5:=V28x5 (xD kU e [1,1,1,0,1,1,0,1,0] aH7 (qO c e))
def B28x6(c:TC0)(k9:Bool→Int→Bool→G.T→G.T→Rt)(a6:Int)(a7:Bool)(b110:G.T)(b111:G.T)(b102:G.T)(b103:G.T):Rt:=
 cnd (decide (b110.kind=(2:Int))) (obL [.bool] (c 72 [yR 2 b110.value,yT ([48]:List UInt8)]) fun(r0:Bool×Unit)=>
 cnd r0.1 (obL [.bool] (c 70 [yR 3 b111,yR 3 b103]) fun(r1:Bool×Unit)=>
 k9 r1.1 a6 a7 b102 b103) (k9 false a6 a7 b102 b103)) (k9 false a6 a7 b102 b103)
def V28x6(n:Nt):Int→Bool→G.T→G.T→G.T→G.T→Rt:=fun x0 x1 x2 x3 x4 x5=>n [yI x0,yB x1,yR 3 x2,yR 3 x3,yR 3 x4,yR 3 x5]
def X28x6:=V28x6 (xD kU e [1,1,1,0,1,1,0,0,1,0,1,1,0] aH6 (aGl c e))
def B28x7(c:TC0)(k10:Bool→Int→Int→Bool→G.T→G.T→G.T→Rt)(k8:Int→Bool→Rt)(a12:Int)(a6:Int)(a7:Bool)(b102:G.T)(b103:G.T):Rt:=
 cnd (decide (a12<(2:Int))) (ob (idx b102.args a12) fun v0=>
 ob (idx b102.args (IntKind.i64.wrap ((1:Int)-a12))) fun v1=>
 cnd (decide (v1.kind=(2:Int))) (obL [.bool] (c 73 [yR 2 v1.value,yT ([110,105,108]:List UInt8)]) fun(r2:Bool×Unit)=>
 cnd r2.1 (obL [.bool] (c 70 [yR 3 v0,yR 3 b103]) fun(r3:Bool×Unit)=>
 k10 r3.1 a12 a6 a7 v1 b102 b103) (obL [.bool] (c 73 [yR 2 v1.value,yT ([116]:List UInt8)]) fun(r4:Bool×Unit)=>
 cnd r4.1 (obL [.bool] (c 70 [yR 3 v0,yR 3 b103]) fun(r5:Bool×Unit)=>
 k10 r5.1 a12 a6 a7 v1 b102 b103) (obL [.bool] (c 72 [yR 2 v1.value,yT ([48]:List UInt8)]) fun(r6:Bool×Unit)=>
 cnd r6.1 (obL [.bool] (c 70 [yR 3 v0,yR 3 b103]) fun(r7:Bool×Unit)=>
 k10 r7.1 a12 a6 a7 v1 b102 b103) (k10 false a12 a6 a7 v1 b102 b103)))) (k10 false a12 a6 a7 v1 b102 b103)) (k8 a6 a7)
def aFc(n:Nt):Int→Int→Bool→G.T→G.T→Rt:=fun x0 x1 x2 x3 x4=>n [yI x0,yI x1,yB x2,yR 3 x3,yR 3 x4]
def X28x7:=aFc (xE kU e [1,1,1,0,1,1,0,1,0,0,1,0,1,0,0] uB (q28x5 c e))
def B28x8(c:TC0)(a6:Int)(a7:Bool):Rt:=
 some [yI a6,yB a7]
def V28x8(n:Nt):Int→Bool→Rt:=fun x0 x1=>n [yI x0,yB x1]
def X28x8:=V28x8 (xD kU e [1,1,1,0,1,1,0,1,0,1,0] aH5 (qO c e))
def B28x9(c:TC0)(k5:Int→Bool→G.T→G.T→Rt)(a92:Bool)(a6:Int)(a7:Bool)(b102:G.T)(b103:G.T):Rt:=
 cnd a92 (k5 (IntKind.i64.wrap ((BitVec.ofInt IntKind.i64.bits a6&&&BitVec.ofInt IntKind.i64.bits (10:Int)).toNat:Int)) true b102 b103) (k5 a6 a7 b102 b103)
def V28x9(n:Nt):Bool→Int→Bool→G.T→G.T→Rt:=fun x0 x1 x2 x3 x4=>n [yB x0,yI x1,yB x2,yR 3 x3,yR 3 x4]
def X28x9:=V28x9 (xD kU e [1,1,1,0,1,1,0,0,1,0,1,1,0,1,0] aH4 (aGl c e))
def aJW(c:TC0)(k11:Int→Int→Bool→G.T→G.T→Rt)(a134:Bool)(a12:Int)(a6:Int)(a7:Bool)(b114:G.T)(b102:G.T)(b103:G.T):Rt:=
 cnd a134 (obL [i6] (c 67 [yR 2 b114.value]) fun(r0:Int×Unit)=>
 k11 a12 (IntKind.i64.wrap ((BitVec.ofInt IntKind.i64.bits a6&&&BitVec.ofInt IntKind.i64.bits r0.1).toNat:Int)) true b102 b103) (k11 a12 a6 a7 b102 b103)
def V28x10(n:Nt):Bool→Int→Int→Bool→G.T→G.T→G.T→Rt:=fun x0 x1 x2 x3 x4 x5 x6=>n [yB x0,yI x1,yI x2,yB x3,yR 3 x4,yR 3 x5,yR 3 x6]
def aIW(n7:Nt):=V28x10 (xD kU e [1,1,1,0,1,1,0,1,0,0,1,0,1,0,0,1,0,0,1,1,0] aBn (q28x8 c e n7))
def aEd(c:TC0)(n7:Int→Int→Bool→G.T→G.T→Rt)(a12:Int)(a6:Int)(a7:Bool)(b102:G.T)(b103:G.T):Rt:=
 n7 (IntKind.i64.wrap (a12+(1:Int))) a6 a7 b102 b103
def V28x11(n:Nt):Int→Int→Bool→G.T→G.T→Rt:=fun x0 x1 x2 x3 x4=>n [yI x0,yI x1,yB x2,yR 3 x3,yR 3 x4]
def aIV(n7:Nt):=V28x11 (xD kU e [1,1,1,0,1,1,0,1,0,0,1,0,1,0,0,1,1,0] aBm (q28x6 c e n7))
theorem s28x0:V28x0 (xF kU c e)=B28x0 c (X28x1 c e):=by kernel_rfl
theorem s28x1:V28x1 (xA kU c e [1,1,1,0] aIb (qO c e))=B28x1 c (X28x2 c e):=by kernel_rfl
theorem s28x2:V28x2 (xA kU c e [1,1,1,0,1,0,1,1,0] aIa (q28x1 c e))=B28x2 c (X28x3 c e):=by kernel_rfl
theorem s28x3:V28x3 (xA kU c e [1,1,1,0,1,1,0] aH9 (qO c e))=B28x3 c (X28x4 c e) (X28x5 c e):=by kernel_rfl
theorem s28x4:V28x4 (xA kU c e [1,1,1,0,1,1,0,0,1,0,1,0,1,0] aH8 (q28x3 c e))=B28x4 c (X28x6 c e):=by kernel_rfl
theorem s28x5:V28x5 (xA kU c e [1,1,1,0,1,1,0,1,0] aH7 (qO c e))=B28x5 c (X28x7 c e) (X28x8 c e):=by kernel_rfl
theorem s28x6:V28x6 (xA kU c e [1,1,1,0,1,1,0,0,1,0,1,1,0] aH6 (aGl c e))=B28x6 c (X28x9 c e):=by kernel_rfl
theorem s28x7(n7:Nt):aFc (xA kU c e [1,1,1,0,1,1,0,1,0,0,1,0,1,0,0] uB (lpK U0 uB n7 (q28x5 c e)))=B28x7 c (aIW c e n7) (X28x8 c e):=by kernel_rfl
theorem s28x8:V28x8 (xA kU c e [1,1,1,0,1,1,0,1,0,1,0] aH5 (qO c e))=B28x8 c:=by kernel_rfl
theorem s28x9:V28x9 (xA kU c e [1,1,1,0,1,1,0,0,1,0,1,1,0,1,0] aH4 (aGl c e))=B28x9 c (X28x5 c e):=by kernel_rfl
theorem s28x10(n7:Nt):V28x10 (xA kU c e [1,1,1,0,1,1,0,1,0,0,1,0,1,0,0,1,0,0,1,1,0] aBn (q28x8 c e n7))=aJW c (aIV c e n7):=by kernel_rfl
theorem s28x11(n7:Nt):V28x11 (xA kU c e [1,1,1,0,1,1,0,1,0,0,1,0,1,0,0,1,1,0] aBm (q28x6 c e n7))=aEd c (aFc n7):=by kernel_rfl
def aJA(c:TC0)(L:Nat):Int→Bool→Rt:=B28x8 c
theorem j28x8:X28x8 c (cu c L)=aJA c L:=by rw[X28x8,aK,s28x8];rfl
def aD9(c:TC0)(L:Nat)(n7:Int→Int→Bool→G.T→G.T→Rt):Int→Int→Bool→G.T→G.T→Rt:=aEd c n7
theorem j28x11(n7:Nt):aIV c (cu c L) n7=aD9 c L (aFc n7):=by rw[aIV,aK,s28x11];rfl
def aAp(c:TC0)(L:Nat)(n7:Int→Int→Bool→G.T→G.T→Rt):Bool→Int→Int→Bool→G.T→G.T→G.T→Rt:=aJW c (aD9 c L n7)
theorem j28x10(n7:Nt):aIW c (cu c L) n7=aAp c L (aFc n7):=by rw[aIW,aK,s28x10];simp only[j28x11];rfl
def rW(c:TC0)(L:Nat):Nat→Int→Int→Bool→G.T→G.T→Rt
 |0=>fun _ _ _ _ _=>none
 |n+1=>B28x7 c (aAp c L (rW c L n)) (aJA c L)
theorem u28x7(n:Nat):aFc (xL kU c L [1,1,1,0,1,1,0,1,0,0,1,0,1,0,0] uB (q28x5 c (cu c L)) n)=rW c L n:=by
 induction n with
 |zero=>rfl
 |succ n ih=>rw[gC,s28x7];simp only[j28x10,j28x8,ih];rfl
theorem w28x7:X28x7 c (cu c L)=rW c L L:=u28x7 c L L
def aJB(c:TC0)(L:Nat):Int→Bool→G.T→G.T→Rt:=B28x5 c (rW c L L) (aJA c L)
theorem j28x5:X28x5 c (cu c L)=aJB c L:=by rw[X28x5,aK,s28x5];simp only[w28x7,j28x8];rfl
def J28x9(c:TC0)(L:Nat):Bool→Int→Bool→G.T→G.T→Rt:=B28x9 c (aJB c L)
theorem j28x9:X28x9 c (cu c L)=J28x9 c L:=by rw[X28x9,aK,s28x9];simp only[j28x5];rfl
def J28x6(c:TC0)(L:Nat):Int→Bool→G.T→G.T→G.T→G.T→Rt:=B28x6 c (J28x9 c L)
theorem j28x6:X28x6 c (cu c L)=J28x6 c L:=by rw[X28x6,aK,s28x6];simp only[j28x9];rfl
def aJC(c:TC0)(L:Nat):Bool→Int→Bool→G.T→G.T→G.T→G.T→Rt:=B28x4 c (J28x6 c L)
theorem j28x4:X28x4 c (cu c L)=aJC c L:=by rw[X28x4,aK,s28x4];simp only[j28x6];rfl
def J28x3(c:TC0)(L:Nat):Int→Bool→G.T→G.T→Rt:=B28x3 c (aJC c L) (aJB c L)
theorem j28x3:X28x3 c (cu c L)=J28x3 c L:=by rw[X28x3,aK,s28x3];simp only[j28x4,j28x5];rfl
def aJD(c:TC0)(L:Nat):Bool→Int→Int→Bool→G.T→G.T→Rt:=B28x2 c (J28x3 c L)
theorem j28x2:X28x2 c (cu c L)=aJD c L:=by rw[X28x2,aK,s28x2];simp only[j28x3];rfl
def aFh(c:TC0)(L:Nat):Int→Bool→G.T→G.T→Rt:=B28x1 c (aJD c L)
theorem j28x1:X28x1 c (cu c L)=aFh c L:=by rw[X28x1,aK,s28x1];simp only[j28x2];rfl
def F28(c:TC0)(L:Nat):G.T→G.T→Rt:=B28x0 c (aFh c L)
theorem e28:V28x0 (xF kU c (cu c L))=F28 c L:=by rw[s28x0];simp only[j28x1];rfl
theorem c28(a0:G.T)(a1:G.T)(L n:Nat):CTp L (n+1) 28 [yR 3 a0,yR 3 a1]=F28 (CTp L n) L a0 a1:=by rw[←e28];exact cg (x:=kU) (by kernel_rfl) (by kernel_rfl) L n _
def q29x0(c:TC0)(e:Cu):Kt:=xK ii29
def B29x0(c:TC0)(k1:Bool→Rt)(a0:G.T)(a1:List UInt8)(a2:Int):Rt:=
 cnd (decide (a0.kind=(3:Int))) (obL [.rc 1] (c 35 [yT a1]) fun(r0:G.Y×Unit)=>
 cnd (decide (a0.name=r0.1)) (k1 (decide ((List.length a0.args:Int)=a2))) (k1 false)) (k1 false)
def V29x0(n:Nt):G.T→List UInt8→Int→Rt:=fun x0 x1 x2=>n [yR 3 x0,yT x1,yI x2]
def B29x1(c:TC0)(a6:Bool):Rt:=
 some [yB a6]
def V29x1(n:Nt):Bool→Rt:=fun x0=>n [yB x0]
def X29x1:=V29x1 (xD ii29 e [1,1,0] aH3 (q29x0 c e))
theorem s29x0:V29x0 (xF ii29 c e)=B29x0 c (X29x1 c e):=by kernel_rfl
theorem s29x1:V29x1 (xA ii29 c e [1,1,0] aH3 (q29x0 c e))=B29x1 c:=by kernel_rfl
def J29x1(c:TC0)(L:Nat):Bool→Rt:=B29x1 c
theorem j29x1:X29x1 c (cu c L)=J29x1 c L:=by rw[X29x1,aK,s29x1];rfl
def F29(c:TC0)(L:Nat):G.T→List UInt8→Int→Rt:=B29x0 c (J29x1 c L)
theorem e29:V29x0 (xF ii29 c (cu c L))=F29 c L:=by rw[s29x0];simp only[j29x1];rfl
theorem c29(a0:G.T)(a1:List UInt8)(a2:Int)(L n:Nat):CTp L (n+1) 29 [yR 3 a0,yT a1,yI a2]=F29 (CTp L n) L a0 a1 a2:=by rw[←e29];exact cg (x:=ii29) (by kernel_rfl) (by kernel_rfl) L n _
def qN(c:TC0)(e:Cu):Kt:=xK kT
def q30x1(c:TC0)(e:Cu):Kt:=xT kT c e [1,1,1,0,1,1] (qN c e)
def aGk(c:TC0)(e:Cu):Kt:=xT kT c e [1,1,1,0,1,1,0,1] (qN c e)
def q30x3(c:TC0)(e:Cu):Kt:=xT kT c e [1,1,1,0,1,1,0,0,1,0,1,1] (aGk c e)
def q30x4(c:TC0)(e:Cu):Kt:=xT kT c e [1,1,1,0,1,1,0,1,0,1] (qN c e)
def q30x5(c:TC0)(e:Cu):Kt:=cU U0 0 (q30x4 c e)
def q30x6(c:TC0)(e:Cu)(n7:Nt):Kt:=lpK U0 uA n7 (q30x5 c e)
def q30x7(c:TC0)(e:Cu)(n7:Nt):Kt:=xT kT c e [1,1,1,0,1,1,0,1,0,0,1,0,1,0,0,1,1] (q30x6 c e n7)
def q30x8(c:TC0)(e:Cu)(n7:Nt):Kt:=cU U0 1 (q30x7 c e n7)
def B30x0(c:TC0)(k1:Int→G.T→G.T→Rt)(a0:G.T)(a1:G.T):Rt:=
 obL [.bool] (c 70 [yR 3 a0,yR 3 a1]) fun(r0:Bool×Unit)=>
 cnd r0.1 (k1 (IntKind.i64.wrap ((BitVec.ofInt IntKind.i64.bits (2047:Int)&&&BitVec.ofInt IntKind.i64.bits (32:Int)).toNat:Int)) a0 a1) (k1 (2047:Int) a0 a1)
def V30x0(n:Nt):G.T→G.T→Rt:=fun x0 x1=>n [yR 3 x0,yR 3 x1]
def B30x1(c:TC0)(k2:Bool→Int→Int→G.T→G.T→Rt)(a5:Int)(b102:G.T)(b103:G.T):Rt:=
 cnd (!decide (b102.kind=(3:Int))) (some [yI a5]) (obL [i6,.bool] (c 71 [yR 1 b102.name]) fun(r0:Int×Bool×Unit)=>
 cnd r0.2.1 (cnd (!decide (b102.name.name=([110,111,116]:List UInt8))) (cnd (decide ((List.length b102.args:Int)=(1:Int))) (ob (idx b102.args (0:Int)) fun v1=>
 obL [.bool] (c 70 [yR 3 v1,yR 3 b103]) fun(r2:Bool×Unit)=>
 k2 r2.1 r0.1 a5 b102 b103) (k2 false r0.1 a5 b102 b103)) (k2 false r0.1 a5 b102 b103)) (k2 false r0.1 a5 b102 b103))
def V30x1(n:Nt):Int→G.T→G.T→Rt:=fun x0 x1 x2=>n [yI x0,yR 3 x1,yR 3 x2]
def X30x1:=V30x1 (xD kT e [1,1,1,0] aH1 (qN c e))
def B30x2(c:TC0)(k3:Int→G.T→G.T→Rt)(a48:Bool)(a6:Int)(a5:Int)(b102:G.T)(b103:G.T):Rt:=
 cnd a48 (k3 (IntKind.i64.wrap ((BitVec.ofInt IntKind.i64.bits a5&&& ~~~ BitVec.ofInt IntKind.i64.bits a6).toNat:Int)) b102 b103) (k3 a5 b102 b103)
def V30x2(n:Nt):Bool→Int→Int→G.T→G.T→Rt:=fun x0 x1 x2 x3 x4=>n [yB x0,yI x1,yI x2,yR 3 x3,yR 3 x4]
def X30x2:=V30x2 (xD kT e [1,1,1,0,1,0,1,1,0] aH0 (q30x1 c e))
def B30x3(c:TC0)(k4:Bool→Int→G.T→G.T→G.T→G.T→Rt)(k5:Int→G.T→G.T→Rt)(a5:Int)(b102:G.T)(b103:G.T):Rt:=
 obL [.bool] (c 29 [yR 3 b102,yT ([60]:List UInt8),yI (2:Int)]) fun(r0:Bool×Unit)=>
 cnd r0.1 (ob (idx b102.args (0:Int)) fun v1=>
 ob (idx b102.args (1:Int)) fun v2=>
 cnd (decide (v2.kind=(2:Int))) (obL [.bool] (c 72 [yR 2 v2.value,yT ([48]:List UInt8)]) fun(r3:Bool×Unit)=>
 cnd r3.1 (obL [.bool] (c 70 [yR 3 v1,yR 3 b103]) fun(r4:Bool×Unit)=>
 k4 r4.1 a5 v1 v2 b102 b103) (k4 false a5 v1 v2 b102 b103)) (k4 false a5 v1 v2 b102 b103)) (k5 a5 b102 b103)
def V30x3(n:Nt):Int→G.T→G.T→Rt:=fun x0 x1 x2=>n [yI x0,yR 3 x1,yR 3 x2]
def X30x3:=V30x3 (xD kT e [1,1,1,0,1,1,0] aHZ (qN c e))
def B30x4(c:TC0)(k6:Int→G.T→G.T→G.T→G.T→Rt)(a74:Bool)(a5:Int)(b108:G.T)(b109:G.T)(b102:G.T)(b103:G.T):Rt:=
 cnd a74 (k6 (IntKind.i64.wrap ((BitVec.ofInt IntKind.i64.bits a5&&& ~~~ BitVec.ofInt IntKind.i64.bits (20:Int)).toNat:Int)) b108 b109 b102 b103) (k6 a5 b108 b109 b102 b103)
def V30x4(n:Nt):Bool→Int→G.T→G.T→G.T→G.T→Rt:=fun x0 x1 x2 x3 x4 x5=>n [yB x0,yI x1,yR 3 x2,yR 3 x3,yR 3 x4,yR 3 x5]
def X30x4:=V30x4 (xD kT e [1,1,1,0,1,1,0,0,1,0,1,0,1,0] aHY (q30x3 c e))
def B30x5(c:TC0)(e7:Int→Int→G.T→G.T→Rt)(k8:Int→Rt)(a5:Int)(b102:G.T)(b103:G.T):Rt:=
 obL [.bool] (c 29 [yR 3 b102,yT ([101,113,117,97,108]:List UInt8),yI (2:Int)]) fun(r0:Bool×Unit)=>
 cnd r0.1 (e7 (0:Int) a5 b102 b103) (k8 a5)
def V30x5(n:Nt):Int→G.T→G.T→Rt:=fun x0 x1 x2=>n [yI x0,yR 3 x1,yR 3 x2]
def X30x5:=V30x5 (xD kT e [1,1,1,0,1,1,0,1,0] aHX (qN c e))
def B30x6(c:TC0)(k9:Bool→Int→G.T→G.T→Rt)(a5:Int)(b108:G.T)(b109:G.T)(b102:G.T)(b103:G.T):Rt:=
 cnd (decide (b108.kind=(2:Int))) (obL [.bool] (c 72 [yR 2 b108.value,yT ([48]:List UInt8)]) fun(r0:Bool×Unit)=>
 cnd r0.1 (obL [.bool] (c 70 [yR 3 b109,yR 3 b103]) fun(r1:Bool×Unit)=>
 k9 r1.1 a5 b102 b103) (k9 false a5 b102 b103)) (k9 false a5 b102 b103)
def V30x6(n:Nt):Int→G.T→G.T→G.T→G.T→Rt:=fun x0 x1 x2 x3 x4=>n [yI x0,yR 3 x1,yR 3 x2,yR 3 x3,yR 3 x4]
def X30x6:=V30x6 (xD kT e [1,1,1,0,1,1,0,0,1,0,1,1,0] aHW (aGk c e))
def B30x7(c:TC0)(k10:Bool→Int→Int→G.T→G.T→G.T→Rt)(k8:Int→Rt)(a10:Int)(a5:Int)(b102:G.T)(b103:G.T):Rt:=
 cnd (decide (a10<(2:Int))) (ob (idx b102.args a10) fun v0=>
 ob (idx b102.args (IntKind.i64.wrap ((1:Int)-a10))) fun v1=>
 cnd (decide (v1.kind=(2:Int))) (obL [.bool] (c 73 [yR 2 v1.value,yT ([110,105,108]:List UInt8)]) fun(r2:Bool×Unit)=>
 cnd r2.1 (obL [.bool] (c 70 [yR 3 v0,yR 3 b103]) fun(r3:Bool×Unit)=>
 k10 r3.1 a10 a5 v1 b102 b103) (obL [.bool] (c 73 [yR 2 v1.value,yT ([116]:List UInt8)]) fun(r4:Bool×Unit)=>
 cnd r4.1 (obL [.bool] (c 70 [yR 3 v0,yR 3 b103]) fun(r5:Bool×Unit)=>
 k10 r5.1 a10 a5 v1 b102 b103) (obL [.bool] (c 72 [yR 2 v1.value,yT ([48]:List UInt8)]) fun(r6:Bool×Unit)=>
 cnd r6.1 (obL [.bool] (c 70 [yR 3 v0,yR 3 b103]) fun(r7:Bool×Unit)=>
 k10 r7.1 a10 a5 v1 b102 b103) (k10 false a10 a5 v1 b102 b103)))) (k10 false a10 a5 v1 b102 b103)) (k8 a5)
def aFb(n:Nt):Int→Int→G.T→G.T→Rt:=fun x0 x1 x2 x3=>n [yI x0,yI x1,yR 3 x2,yR 3 x3]
def X30x7:=aFb (xE kT e [1,1,1,0,1,1,0,1,0,0,1,0,1,0,0] uA (q30x5 c e))
def B30x8(c:TC0)(a5:Int):Rt:=
 some [yI a5]
def V30x8(n:Nt):Int→Rt:=fun x0=>n [yI x0]
def X30x8:=V30x8 (xD kT e [1,1,1,0,1,1,0,1,0,1,0] aHV (qN c e))
def B30x9(c:TC0)(k5:Int→G.T→G.T→Rt)(a89:Bool)(a5:Int)(b102:G.T)(b103:G.T):Rt:=
 cnd a89 (k5 (IntKind.i64.wrap ((BitVec.ofInt IntKind.i64.bits a5&&& ~~~ BitVec.ofInt IntKind.i64.bits (10:Int)).toNat:Int)) b102 b103) (k5 a5 b102 b103)
def V30x9(n:Nt):Bool→Int→G.T→G.T→Rt:=fun x0 x1 x2 x3=>n [yB x0,yI x1,yR 3 x2,yR 3 x3]
def X30x9:=V30x9 (xD kT e [1,1,1,0,1,1,0,0,1,0,1,1,0,1,0] aHU (aGk c e))
def aJV(c:TC0)(k11:Int→Int→G.T→G.T→Rt)(a131:Bool)(a10:Int)(a5:Int)(b112:G.T)(b102:G.T)(b103:G.T):Rt:=
 cnd a131 (obL [i6] (c 67 [yR 2 b112.value]) fun(r0:Int×Unit)=>
 k11 a10 (IntKind.i64.wrap ((BitVec.ofInt IntKind.i64.bits a5&&& ~~~ BitVec.ofInt IntKind.i64.bits r0.1).toNat:Int)) b102 b103) (k11 a10 a5 b102 b103)
def V30x10(n:Nt):Bool→Int→Int→G.T→G.T→G.T→Rt:=fun x0 x1 x2 x3 x4 x5=>n [yB x0,yI x1,yI x2,yR 3 x3,yR 3 x4,yR 3 x5]
def aIU(n7:Nt):=V30x10 (xD kT e [1,1,1,0,1,1,0,1,0,0,1,0,1,0,0,1,0,0,1,1,0] aBl (q30x8 c e n7))
def aEc(c:TC0)(n7:Int→Int→G.T→G.T→Rt)(a10:Int)(a5:Int)(b102:G.T)(b103:G.T):Rt:=
 n7 (IntKind.i64.wrap (a10+(1:Int))) a5 b102 b103
def V30x11(n:Nt):Int→Int→G.T→G.T→Rt:=fun x0 x1 x2 x3=>n [yI x0,yI x1,yR 3 x2,yR 3 x3]
def aIT(n7:Nt):=V30x11 (xD kT e [1,1,1,0,1,1,0,1,0,0,1,0,1,0,0,1,1,0] aBk (q30x6 c e n7))
theorem s30x0:V30x0 (xF kT c e)=B30x0 c (X30x1 c e):=by kernel_rfl
theorem s30x1:V30x1 (xA kT c e [1,1,1,0] aH1 (qN c e))=B30x1 c (X30x2 c e):=by kernel_rfl
theorem s30x2:V30x2 (xA kT c e [1,1,1,0,1,0,1,1,0] aH0 (q30x1 c e))=B30x2 c (X30x3 c e):=by kernel_rfl
theorem s30x3:V30x3 (xA kT c e [1,1,1,0,1,1,0] aHZ (qN c e))=B30x3 c (X30x4 c e) (X30x5 c e):=by kernel_rfl
theorem s30x4:V30x4 (xA kT c e [1,1,1,0,1,1,0,0,1,0,1,0,1,0] aHY (q30x3 c e))=B30x4 c (X30x6 c e):=by kernel_rfl
theorem s30x5:V30x5 (xA kT c e [1,1,1,0,1,1,0,1,0] aHX (qN c e))=B30x5 c (X30x7 c e) (X30x8 c e):=by kernel_rfl
theorem s30x6:V30x6 (xA kT c e [1,1,1,0,1,1,0,0,1,0,1,1,0] aHW (aGk c e))=B30x6 c (X30x9 c e):=by kernel_rfl
theorem s30x7(n7:Nt):aFb (xA kT c e [1,1,1,0,1,1,0,1,0,0,1,0,1,0,0] uA (lpK U0 uA n7 (q30x5 c e)))=B30x7 c (aIU c e n7) (X30x8 c e):=by kernel_rfl
theorem s30x8:V30x8 (xA kT c e [1,1,1,0,1,1,0,1,0,1,0] aHV (qN c e))=B30x8 c:=by kernel_rfl
theorem s30x9:V30x9 (xA kT c e [1,1,1,0,1,1,0,0,1,0,1,1,0,1,0] aHU (aGk c e))=B30x9 c (X30x5 c e):=by kernel_rfl
theorem s30x10(n7:Nt):V30x10 (xA kT c e [1,1,1,0,1,1,0,1,0,0,1,0,1,0,0,1,0,0,1,1,0] aBl (q30x8 c e n7))=aJV c (aIT c e n7):=by kernel_rfl
theorem s30x11(n7:Nt):V30x11 (xA kT c e [1,1,1,0,1,1,0,1,0,0,1,0,1,0,0,1,1,0] aBk (q30x6 c e n7))=aEc c (aFb n7):=by kernel_rfl
def aJw(c:TC0)(L:Nat):Int→Rt:=B30x8 c
theorem j30x8:X30x8 c (cu c L)=aJw c L:=by rw[X30x8,aK,s30x8];rfl
def aD8(c:TC0)(L:Nat)(n7:Int→Int→G.T→G.T→Rt):Int→Int→G.T→G.T→Rt:=aEc c n7
theorem j30x11(n7:Nt):aIT c (cu c L) n7=aD8 c L (aFb n7):=by rw[aIT,aK,s30x11];rfl
def aAo(c:TC0)(L:Nat)(n7:Int→Int→G.T→G.T→Rt):Bool→Int→Int→G.T→G.T→G.T→Rt:=aJV c (aD8 c L n7)
theorem j30x10(n7:Nt):aIU c (cu c L) n7=aAo c L (aFb n7):=by rw[aIU,aK,s30x10];simp only[j30x11];rfl
def rV(c:TC0)(L:Nat):Nat→Int→Int→G.T→G.T→Rt
 |0=>fun _ _ _ _=>none
 |n+1=>B30x7 c (aAo c L (rV c L n)) (aJw c L)
theorem u30x7(n:Nat):aFb (xL kT c L [1,1,1,0,1,1,0,1,0,0,1,0,1,0,0] uA (q30x5 c (cu c L)) n)=rV c L n:=by
 induction n with
 |zero=>rfl
 |succ n ih=>rw[gC,s30x7];simp only[j30x10,j30x8,ih];rfl
theorem w30x7:X30x7 c (cu c L)=rV c L L:=u30x7 c L L
def aJx(c:TC0)(L:Nat):Int→G.T→G.T→Rt:=B30x5 c (rV c L L) (aJw c L)
theorem j30x5:X30x5 c (cu c L)=aJx c L:=by rw[X30x5,aK,s30x5];simp only[w30x7,j30x8];rfl
def J30x9(c:TC0)(L:Nat):Bool→Int→G.T→G.T→Rt:=B30x9 c (aJx c L)
theorem j30x9:X30x9 c (cu c L)=J30x9 c L:=by rw[X30x9,aK,s30x9];simp only[j30x5];rfl
def J30x6(c:TC0)(L:Nat):Int→G.T→G.T→G.T→G.T→Rt:=B30x6 c (J30x9 c L)
theorem j30x6:X30x6 c (cu c L)=J30x6 c L:=by rw[X30x6,aK,s30x6];simp only[j30x9];rfl
def aJy(c:TC0)(L:Nat):Bool→Int→G.T→G.T→G.T→G.T→Rt:=B30x4 c (J30x6 c L)
theorem j30x4:X30x4 c (cu c L)=aJy c L:=by rw[X30x4,aK,s30x4];simp only[j30x6];rfl
def J30x3(c:TC0)(L:Nat):Int→G.T→G.T→Rt:=B30x3 c (aJy c L) (aJx c L)
theorem j30x3:X30x3 c (cu c L)=J30x3 c L:=by rw[X30x3,aK,s30x3];simp only[j30x4,j30x5];rfl
def aJz(c:TC0)(L:Nat):Bool→Int→Int→G.T→G.T→Rt:=B30x2 c (J30x3 c L)
theorem j30x2:X30x2 c (cu c L)=aJz c L:=by rw[X30x2,aK,s30x2];simp only[j30x3];rfl
def aFg(c:TC0)(L:Nat):Int→G.T→G.T→Rt:=B30x1 c (aJz c L)
theorem j30x1:X30x1 c (cu c L)=aFg c L:=by rw[X30x1,aK,s30x1];simp only[j30x2];rfl
def F30(c:TC0)(L:Nat):G.T→G.T→Rt:=B30x0 c (aFg c L)
theorem e30:V30x0 (xF kT c (cu c L))=F30 c L:=by rw[s30x0];simp only[j30x1];rfl
theorem c30(a0:G.T)(a1:G.T)(L n:Nat):CTp L (n+1) 30 [yR 3 a0,yR 3 a1]=F30 (CTp L n) L a0 a1:=by rw[←e30];exact cg (x:=kT) (by kernel_rfl) (by kernel_rfl) L n _
def B33x0(c:TC0):Rt:=
 obL [zS 5] (c 74 []) fun(r0:List G.A×Unit)=>
 obL [.str] (c 75 []) fun(r1:List UInt8×Unit)=>
 obL [zS 2,.rc 18] (c 76 [yS 5 r0.1,yT ([108,105,115,112]:List UInt8),yT r1.1]) fun(r2:List G.O×G.X×Unit)=>
 some [yS 2 r2.1]
def V33x0(n:Nt):Rt:=n []
theorem s33x0:V33x0 (xF ii33 c e)=B33x0 c:=by kernel_rfl
def F33(c:TC0)(L:Nat):Rt:=B33x0 c
theorem e33:V33x0 (xF ii33 c (cu c L))=F33 c L:=s33x0 _ _
theorem c33(L n:Nat):CTp L (n+1) 33 []=F33 (CTp L n) L:=by rw[←e33];exact cg (x:=ii33) (by kernel_rfl) (by kernel_rfl) L n _
def B35x0(c:TC0)(a0:List UInt8):Rt:=
 some [yR 1 (G.Y.mk ([108,105,115,112]:List UInt8) a0)]
def V35x0(n:Nt):List UInt8→Rt:=fun x0=>n [yT x0]
theorem s35x0:V35x0 (xF ii35 c e)=B35x0 c:=by kernel_rfl
def F35(c:TC0)(L:Nat):List UInt8→Rt:=B35x0 c
theorem e35:V35x0 (xF ii35 c (cu c L))=F35 c L:=s35x0 _ _
theorem c35(a0:List UInt8)(L n:Nat):CTp L (n+1) 35 [yT a0]=F35 (CTp L n) L a0:=by rw[←e35];exact cg (x:=ii35) (by kernel_rfl) (by kernel_rfl) L n _
def aEz(c:TC0)(e:Cu):Kt:=xK tN
def q54x1(c:TC0)(e:Cu):Kt:=xT tN c e [1,1,1] (aEz c e)
def q54x2(c:TC0)(e:Cu):Kt:=cU U0 0 (q54x1 c e)
def q54x3(c:TC0)(e:Cu)(n1:Nt):Kt:=lpK U0 tZ n1 (q54x2 c e)
def q54x4(c:TC0)(e:Cu)(n1:Nt):Kt:=xT tN c e [1,1,0,1,0,0,1] (q54x3 c e n1)
def q54x5(c:TC0)(e:Cu):Kt:=xT tN c e [1,1,1,1,0,1] (aEz c e)
def q54x6(c:TC0)(e:Cu):Kt:=cU U0 2 (q54x5 c e)
def B54x0(c:TC0)(e1:Int→Bool→List G.T→G.T→Rt)(a0:List G.T)(a1:G.T):Rt:=
 e1 (0:Int) false a0 a1
def V54x0(n:Nt):List G.T→G.T→Rt:=fun x0 x1=>n [yS 3 x0,yR 3 x1]
def aJU(c:TC0)(k2:Bool→Int→Bool→List G.T→G.T→Rt)(a6:Int)(a5:Bool)(a0:List G.T)(b103:G.T):Rt:=
 cnd (decide (a6<(List.length a0:Int))) (k2 (!a5) a6 a5 a0 b103) (k2 false a6 a5 a0 b103)
def aJo(n:Nt):Int→Bool→List G.T→G.T→Rt:=fun x0 x1 x2 x3=>n [yI x0,yB x1,yS 3 x2,yR 3 x3]
def X54x1:=aJo (xE tN e [1,1,0,1,0,0] tZ (q54x2 c e))
def aJT(c:TC0)(n1:Int→Bool→List G.T→G.T→Rt)(k3:List G.T→G.T→Rt)(a15:Bool)(a6:Int)(a5:Bool)(a0:List G.T)(b103:G.T):Rt:=
 cnd a15 (ob (idx a0 a6) fun v0=>
 obL [.bool] (c 70 [yR 3 v0,yR 3 b103]) fun(r1:Bool×Unit)=>
 n1 (IntKind.i64.wrap (a6+(1:Int))) r1.1 a0 b103) (cnd (!a5) (chk (Nat.ble ((List.length a0+List.length ([b103]:List G.T))*176) 1073741824)<|
 k3 (a0++([b103]:List G.T)) b103) (k3 a0 b103))
def V54x2(n:Nt):Bool→Int→Bool→List G.T→G.T→Rt:=fun x0 x1 x2 x3 x4=>n [yB x0,yI x1,yB x2,yS 3 x3,yR 3 x4]
def X54x2(n1:Nt):=V54x2 (xD tN e [1,1,0,1,0,0,0,1,0] aHT (q54x4 c e n1))
def B54x3(c:TC0)(e4:Int→List G.T→G.T→Rt)(k5:List G.T→Rt)(a0:List G.T)(b103:G.T):Rt:=
 cnd (decide (b103.kind=(3:Int))) (e4 (0:Int) a0 b103) (k5 a0)
def V54x3(n:Nt):List G.T→G.T→Rt:=fun x0 x1=>n [yS 3 x0,yR 3 x1]
def X54x3:=V54x3 (xD tN e [1,1,1,1,0] aHS (aEz c e))
def B54x4(c:TC0)(n4:Int→List G.T→G.T→Rt)(k5:List G.T→Rt)(a7:Int)(a0:List G.T)(b103:G.T):Rt:=
 cnd (decide (a7<(List.length b103.args:Int))) (ob (idx b103.args a7) fun v0=>
 obL [zS 3] (c 54 [yS 3 a0,yR 3 v0]) fun(r1:List G.T×Unit)=>
 n4 (IntKind.i64.wrap (a7+(1:Int))) r1.1 b103) (k5 a0)
def V54x4(n:Nt):Int→List G.T→G.T→Rt:=fun x0 x1 x2=>n [yI x0,yS 3 x1,yR 3 x2]
def X54x4:=V54x4 (xE tN e [1,1,1,1,0,0,1,0,1,0,0] zI (q54x6 c e))
def B54x5(c:TC0)(a0:List G.T):Rt:=
 some [yS 3 a0]
def V54x5(n:Nt):List G.T→Rt:=fun x0=>n [yS 3 x0]
def X54x5:=V54x5 (xD tN e [1,1,1,1,0,1,0] aHR (aEz c e))
theorem s54x0:V54x0 (xF tN c e)=B54x0 c (X54x1 c e):=by kernel_rfl
theorem s54x1(n1:Nt):aJo (xA tN c e [1,1,0,1,0,0] tZ (lpK U0 tZ n1 (q54x2 c e)))=aJU c (X54x2 c e n1):=by kernel_rfl
theorem s54x2(n1:Nt):V54x2 (xA tN c e [1,1,0,1,0,0,0,1,0] aHT (q54x4 c e n1))=aJT c (aJo n1) (X54x3 c e):=by kernel_rfl
theorem s54x3:V54x3 (xA tN c e [1,1,1,1,0] aHS (aEz c e))=B54x3 c (X54x4 c e) (X54x5 c e):=by kernel_rfl
theorem s54x4(n4:Nt):V54x4 (xA tN c e [1,1,1,1,0,0,1,0,1,0,0] zI (lpK U0 zI n4 (q54x6 c e)))=B54x4 c (V54x4 n4) (X54x5 c e):=by kernel_rfl
theorem s54x5:V54x5 (xA tN c e [1,1,1,1,0,1,0] aHR (aEz c e))=B54x5 c:=by kernel_rfl
def J54x5(c:TC0)(L:Nat):List G.T→Rt:=B54x5 c
theorem j54x5:X54x5 c (cu c L)=J54x5 c L:=by rw[X54x5,aK,s54x5];rfl
def aB4(c:TC0)(L:Nat):Nat→Int→List G.T→G.T→Rt
 |0=>fun _ _ _=>none
 |n+1=>B54x4 c (aB4 c L n) (J54x5 c L)
theorem u54x4(n:Nat):V54x4 (xL tN c L [1,1,1,1,0,0,1,0,1,0,0] zI (q54x6 c (cu c L)) n)=aB4 c L n:=by
 induction n with
 |zero=>rfl
 |succ n ih=>rw[gC,s54x4];simp only[j54x5,ih];rfl
theorem w54x4:X54x4 c (cu c L)=aB4 c L L:=u54x4 c L L
def aFf(c:TC0)(L:Nat):List G.T→G.T→Rt:=B54x3 c (aB4 c L L) (J54x5 c L)
theorem j54x3:X54x3 c (cu c L)=aFf c L:=by rw[X54x3,aK,s54x3];simp only[w54x4,j54x5];rfl
def aCa(c:TC0)(L:Nat)(n1:Int→Bool→List G.T→G.T→Rt):Bool→Int→Bool→List G.T→G.T→Rt:=aJT c n1 (aFf c L)
theorem j54x2(n1:Nt):X54x2 c (cu c L) n1=aCa c L (aJo n1):=by rw[X54x2,aK,s54x2];simp only[j54x3];rfl
def sO(c:TC0)(L:Nat):Nat→Int→Bool→List G.T→G.T→Rt
 |0=>fun _ _ _ _=>none
 |n+1=>aJU c (aCa c L (sO c L n))
theorem u54x1(n:Nat):aJo (xL tN c L [1,1,0,1,0,0] tZ (q54x2 c (cu c L)) n)=sO c L n:=by
 induction n with
 |zero=>rfl
 |succ n ih=>rw[gC,s54x1];simp only[j54x2,ih];rfl
theorem w54x1:X54x1 c (cu c L)=sO c L L:=u54x1 c L L
def F54(c:TC0)(L:Nat):List G.T→G.T→Rt:=B54x0 c (sO c L L)
theorem e54:V54x0 (xF tN c (cu c L))=F54 c L:=by rw[s54x0];simp only[w54x1];rfl
theorem c54(a0:List G.T)(a1:G.T)(L n:Nat):CTp L (n+1) 54 [yS 3 a0,yR 3 a1]=F54 (CTp L n) L a0 a1:=by rw[←e54];exact cg (x:=tN) (by kernel_rfl) (by kernel_rfl) L n _
def B55x0(c:TC0):Rt:=
 some [⟨(.sl .str),([([99,97,114]:List UInt8),([99,100,114]:List UInt8),([99,111,110,115]:List UInt8),([99,111,110,115,112]:List UInt8),([110,111,116]:List UInt8),([101,113,117,97,108]:List UInt8),([105,102]:List UInt8),([98,105,110,97,114,121,45,43]:List UInt8),([60]:List UInt8),([105,110,116,101,103,101,114,112]:List UInt8),([108,101,110]:List UInt8),([98,105,110,97,114,121,45,97,112,112,101,110,100]:List UInt8),([114,101,118]:List UInt8),([116,114,117,101,45,108,105,115,116,112]:List UInt8),([110,97,116,112]:List UInt8),([112,111,115,112]:List UInt8),([117,110,97,114,121,45,45]:List UInt8),([98,105,110,97,114,121,45,42]:List UInt8),([105,109,112,108,105,101,115]:List UInt8),([115,121,109,98,111,108,112]:List UInt8),([114,97,116,105,111,110,97,108,112]:List UInt8),([102,105,120]:List UInt8),([105,102,102]:List UInt8),([110,102,105,120]:List UInt8),([122,112]:List UInt8)]:List (List UInt8))⟩]
def V55x0(n:Nt):Rt:=n []
theorem s55x0:V55x0 (xF ii55 c e)=B55x0 c:=by kernel_rfl
def F55(c:TC0)(L:Nat):Rt:=B55x0 c
theorem e55:V55x0 (xF ii55 c (cu c L))=F55 c L:=s55x0 _ _
theorem c55(L n:Nat):CTp L (n+1) 55 []=F55 (CTp L n) L:=by rw[←e55];exact cg (x:=ii55) (by kernel_rfl) (by kernel_rfl) L n _
def B56x0(c:TC0):Rt:=
 some [⟨(.sl .str),([([100,117,98]:List UInt8),([115,97,109,101,45,108,101,110]:List UInt8),([112,97,105,114,115]:List UInt8),([100,117,98,115]:List UInt8),([116,114,101,101]:List UInt8),([101,118,101,110,115]:List UInt8),([111,100,100,115]:List UInt8),([120,111,114,50]:List UInt8)]:List (List UInt8))⟩]
def V56x0(n:Nt):Rt:=n []
theorem s56x0:V56x0 (xF ii56 c e)=B56x0 c:=by kernel_rfl
def F56(c:TC0)(L:Nat):Rt:=B56x0 c
theorem e56:V56x0 (xF ii56 c (cu c L))=F56 c L:=s56x0 _ _
theorem c56(L n:Nat):CTp L (n+1) 56 []=F56 (CTp L n) L:=by rw[←e56];exact cg (x:=ii56) (by kernel_rfl) (by kernel_rfl) L n _
def B58x0(c:TC0)(a0:List G.E)(a1:G.Y):Rt:=
 obL [i6,.bool] (c 68 [yR 1 a1]) fun(r0:Int×Bool×Unit)=>
 cnd r0.2.1 (some [yI r0.1,yB true]) (obL [.rc 4,.bool] (c 84 [yS 15 a0,yR 1 a1]) fun(r1:G.F×Bool×Unit)=>
 cnd (!r1.2.1) (some [yI (0:Int),yB false]) (some [yI (List.length r1.1.params:Int),yB true]))
def V58x0(n:Nt):List G.E→G.Y→Rt:=fun x0 x1=>n [yS 15 x0,yR 1 x1]
theorem s58x0:V58x0 (xF ii58 c e)=B58x0 c:=by kernel_rfl
def F58(c:TC0)(L:Nat):List G.E→G.Y→Rt:=B58x0 c
theorem e58:V58x0 (xF ii58 c (cu c L))=F58 c L:=s58x0 _ _
theorem c58(a0:List G.E)(a1:G.Y)(L n:Nat):CTp L (n+1) 58 [yS 15 a0,yR 1 a1]=F58 (CTp L n) L a0 a1:=by rw[←e58];exact cg (x:=ii58) (by kernel_rfl) (by kernel_rfl) L n _
def q59x0(c:TC0)(e:Cu):Kt:=xK ii59
def B59x0(c:TC0)(k1:Bool→Rt)(a0:G.O):Rt:=
 cnd (decide (a0.kind=(2:Int))) (k1 (decide (a0.sym=(G.Y.mk ([108,105,115,112]:List UInt8) ([110,105,108]:List UInt8))))) (k1 false)
def V59x0(n:Nt):G.O→Rt:=fun x0=>n [yR 2 x0]
def B59x1(c:TC0)(a2:Bool):Rt:=
 some [yB a2]
def V59x1(n:Nt):Bool→Rt:=fun x0=>n [yB x0]
def X59x1:=V59x1 (xD ii59 e [1,1,0] aHQ (q59x0 c e))
theorem s59x0:V59x0 (xF ii59 c e)=B59x0 c (X59x1 c e):=by kernel_rfl
theorem s59x1:V59x1 (xA ii59 c e [1,1,0] aHQ (q59x0 c e))=B59x1 c:=by kernel_rfl
def J59x1(c:TC0)(L:Nat):Bool→Rt:=B59x1 c
theorem j59x1:X59x1 c (cu c L)=J59x1 c L:=by rw[X59x1,aK,s59x1];rfl
def F59(c:TC0)(L:Nat):G.O→Rt:=B59x0 c (J59x1 c L)
theorem e59:V59x0 (xF ii59 c (cu c L))=F59 c L:=by rw[s59x0];simp only[j59x1];rfl
theorem c59(a0:G.O)(L n:Nat):CTp L (n+1) 59 [yR 2 a0]=F59 (CTp L n) L a0:=by rw[←e59];exact cg (x:=ii59) (by kernel_rfl) (by kernel_rfl) L n _
end
end Go.TV
namespace Go.TV
open Go.AI Go.PI Go.Proofs
set_option maxRecDepth 20000
def IbR(x:Rt):Prop:= ∃(i:Int) (b:Bool),x=some [⟨.int .i64,i⟩,⟨.bool,b⟩]
def TeR(x:Rt):Prop:= ∃t:G.T,x=some [⟨.rc 3,t⟩]
theorem aAY{β:Type}{a:Int}{t:G.T}{b:Bool}{K:Int×G.T×Bool×Unit→Option β}:obL (D:=U0.D) [.int .i64,.rc 3,.bool] (some [⟨.int .i64,a⟩,⟨.rc 3,t⟩,⟨.bool,b⟩]) K=K (a,t,b,()):=rfl
theorem cnd_p{P:Rt→Prop}{b:Bool}{x y:Rt}(h1:b=true→P x)(h2:b=false→P y):P (cnd b x y):=by
 cases b with
 |true=>exact h1 rfl
 |false=>exact h2 rfl
theorem seq_ok{x y:G.T}{L n:Nat}:CTp L (n+3) 91 [⟨.rc 3,x⟩,⟨.rc 3,y⟩]=some [⟨.rc 3,lsp eqB [x,y]⟩]:=by
 rw[c91,F91,B91x0];have h2:CTp L (n+2) 64 [⟨.str,eqB⟩,⟨.sl (.rc 3),([x,y]:List G.T)⟩]=some [⟨.rc 3,lsp eqB [x,y]⟩]:=wW;simp only[eqB]at h2;rw[h2];rfl
theorem snot_ok{x:G.T}{L n:Nat}:TeR (CTp L (n+3) 61 [⟨.rc 3,x⟩]):=by
 rw[c61,F61,B61x0];have h2:CTp L (n+2) 64 [⟨.str,lB⟩,⟨.sl (.rc 3),([x]:List G.T)⟩]=some [⟨.rc 3,lsp lB [x]⟩]:=wW;simp only[lB]at h2;rw[h2];exact⟨_,rfl⟩
end Go.TV
namespace Go.TV
open Go.AI Go.PI Go.Proofs
theorem IsP_ok{t:G.T}{s:List UInt8}{k:Int}{L n:Nat}:CTp L (n+1) 22 (tsi t s k)=some (bb (isA t s k)):=by
 show CTp L (n+1) 22 [yR 3 _,yT _,yI _]=_;rw[c22,F22,B22x0];simp only[J22x1,B22x1,isA];cases t with|mk kk nm v l=>
 cases nm with|mk p q=>
 by_cases e1:kk=3
 ·by_cases e2:p=bM
  ·by_cases e3:q=s
   ·simp[G.T.kind,G.T.name,G.T.args,G.Y.package,G.Y.name,bM,e1,e2,e3,cnd,bb]
   ·simp[G.T.kind,G.T.name,G.T.args,G.Y.package,G.Y.name,bM,e1,e2,e3,cnd,bb]
  ·have e2': ¬p=[108,105,115,112]:=e2;simp[G.T.kind,G.T.name,G.T.args,G.Y.package,G.Y.name,bM,e1,e2',cnd,bb]
 ·simp[G.T.kind,e1,cnd,bb]
end Go.TV
namespace Go.TV
open Go.AI Go.PI Go.Proofs
set_option maxRecDepth 20000
theorem aGQ{β:Type}{b:G.O}{K:G.O×Unit→Option β}:obL (D:=U0.D) [.rc 2] (some [⟨.rc 2,b⟩]) K=K (b,()):=rfl
theorem oT_ok{L n:Nat}:CTp L (n+2) 118 []=some [⟨.rc 2,(⟨2,[],[],⟨bM,[116]⟩,[],[]⟩:G.O)⟩]:=by
 rw[c118,F118,aKb,c148];rfl
theorem fB(x:G.T):osz x.value+2≤tsz x:=by cases x;simp only[G.T.value,tsz];omega
end Go.TV
namespace Go.TV
open Go.AI Go.PI Go.Proofs
set_option maxRecDepth 20000
def aA4(o:G.O):Bool:=decide (o.kind=2)&&decide (o.sym=⟨[108,105,115,112],[110,105,108]⟩)
def tOb:G.O:=⟨2,[],[],⟨[108,105,115,112],[116]⟩,[],[]⟩
def zOj:G.O:=⟨1,[48],[49],⟨[],[]⟩,[],[]⟩
def zeT:G.T:=⟨2,⟨[],[]⟩,zOj,[]⟩
noncomputable def smp(t:G.T):Bool:=decide (t.kind=2)&&(aA4 t.value||decide (t.value=tOb)||decide (t.value=zOj))
theorem aA5{o:G.O}{L n:Nat}:CTp L (n+1) 59 [⟨.rc 2,o⟩]=some [⟨.bool,aA4 o⟩]:=by
 rw[c59,F59,B59x0,aA4];cases decide (o.kind=2)with
 |true=>rw[aE,Bool.true_and];rfl
 |false=>rw[aC,Bool.false_and];rfl
def gQ:Nat→G.O→G.O
 |0,o=>o
 |n+1,o=>if o.kind=4 then(match o.pair with|[_,y]=>gQ n y|_=>o)else o
def negS(l:List UInt8):Bool:=match l with|x::_=>decide ((x.toNat:Int)=45)|[]=>false
def tof(o:G.O):Int:=
 if o.kind=1 then(if o.num=[48]then 1 else if o.den=[49]then(if negS o.num=true then 4 else 2)else if negS o.num=true then 16 else 8)
 else if o.kind=2 then(if aA4 o=true then 32 else if o.sym=⟨[108,105,115,112],[116]⟩then 64 else 128)
 else if o.kind=3 then 256 else if o.kind=4 then(if aA4 (gQ (osz o) o)=true then 512 else 1024)else 0
theorem aC9: ∀(n m:Nat) (o:G.O),osz o≤n→n≤m→gQ m o=gQ n o:=by
 intro n;induction n with
 |zero=>intro m o h _;cases o;simp only[osz]at h;omega
 |succ n ih=>
  intro m o h hm;obtain⟨m,rfl⟩: ∃m',m=m'+1:=⟨m-1,by omega⟩
  simp only[gQ];split
  ·cases o with|mk k nu de sy tx l=>
   match l with
   |[x,y]=>simp only[osz,pZ]at h;exact ih m y (by omega) (by omega)
   |[]=>rfl
   |[_]=>rfl
   |_::_::_::_=>rfl
  ·rfl
theorem OfP_loop{L n:Nat}: ∀(m:Nat) (o:G.O),osz o<m→aB5 (CTp L (n+1)) L m o=some [⟨.int .i64,if aA4 (gQ (osz o) o)=true then(512:Int)else 1024⟩]:=by
 intro m;induction m with
 |zero=>intro o h;omega
 |succ m ih=>
  intro o h;have stop:gQ (osz o) o=o→aJF (CTp L (n+1)) L (aB5 (CTp L (n+1)) L m) false o=some [⟨.int .i64,if aA4 (gQ (osz o) o)=true then(512:Int)else 1024⟩]:=fun e=>by
   rw[aJF,B21x4,aC,aA5,bC,e];cases aA4 o<;>rfl
  have hs: ∃q,osz o=q+1:=⟨osz o-1,by cases o;simp only[osz];omega⟩
  obtain⟨q,hq⟩:=hs;rw[aB5,B21x2];by_cases hk:o.kind=4
  ·rw[decide_eq_true hk,aE];by_cases h2:(o.pair.length:Int)=2
   ·rw[decide_eq_true h2,aJF,B21x4,aE];cases o with|mk k nu de sy tx l=>
    match l,h2 with
    |[x,y],_=>
     simp only[osz,pZ]at h hq;have hy:=ih y (by omega)
     have hk':k=4:=hk;have e:gQ (osz ⟨k,nu,de,sy,tx,[x,y]⟩) ⟨k,nu,de,sy,tx,[x,y]⟩=gQ (osz y) y:=by
      have e0:osz ⟨k,nu,de,sy,tx,[x,y]⟩=q+1:=by simp only[osz,pZ];omega
      rw[e0];simp only[gQ,hk',if_true];exact aC9 _ _ y (nlR _) (by omega)
     rw[e,←hy];rfl
   ·rw[decide_eq_false h2];refine stop ?_;rw[hq];simp only[gQ,hk,if_true];split
    ·rename_i x y e;rw[e]at h2;exact(h2 rfl).elim
    ·rfl
  ·rw[decide_eq_false hk,aC];exact stop (by rw[hq];simp only[gQ,hk,if_false])
theorem OfP_ok{o:G.O}{L n:Nat}(h:osz o<L):CTp L (n+2) 21 [⟨.rc 2,o⟩]=some [⟨.int .i64,tof o⟩]:=by
 rw[c21,F21,B21x0,tof];by_cases k1:o.kind=1
 ·have key: ∀b:Bool,J21x1 (CTp L (n+1)) L b o=some [⟨.int .i64,if o.num=[48]then 1 else if o.den=[49]then(if b=true then 4 else 2)else if b=true then 16 else 8⟩]:=fun b=>by
   rw[J21x1,B21x1];by_cases n0:o.num=[48]
   ·rw[decide_eq_true n0,aE,if_pos n0]
   ·rw[decide_eq_false n0,aC,if_neg n0];by_cases d1:o.den=[49]
    ·rw[decide_eq_true d1,aE,if_pos d1,J21x3,B21x3,decide_eq_true d1];cases b<;>rfl
    ·rw[decide_eq_false d1,aC,if_neg d1,J21x3,B21x3,decide_eq_false d1];cases b<;>rfl
  rw[decide_eq_true k1,aE,if_pos k1];cases hn:o.num with
  |nil=>
   have:=key false;rw[hn]at this;exact this
  |cons x l=>
   have:=key (decide ((x.toNat:Int)=45));rw[hn]at this;rw[show decide ((0:Int)<((x::l:List UInt8).length:Int))=true from by simp,aE,show idx (x::l) (0:Int)=some x from rfl,dG]
   exact this
 ·rw[decide_eq_false k1,aC,if_neg k1];by_cases k2:o.kind=2
  ·rw[decide_eq_true k2,aE,if_pos k2,aA5,bC];cases e:aA4 o with
   |true=>rfl
   |false=>
    simp only[aC];by_cases hs:o.sym=⟨[108,105,115,112],[116]⟩
    ·rw[decide_eq_true hs,if_pos hs];rfl
    ·rw[decide_eq_false hs,if_neg hs];rfl
  ·rw[decide_eq_false k2,aC,if_neg k2];by_cases k3:o.kind=3
   ·rw[decide_eq_true k3,if_pos k3];rfl
   ·rw[decide_eq_false k3,aC,if_neg k3];by_cases k4:o.kind=4
    ·rw[decide_eq_true k4,aE,if_pos k4];exact OfP_loop L o h
    ·rw[decide_eq_false k4,if_neg k4];rfl
def aCx(w:List UInt8):Option Int:=
 if w=[99,111,110,115,112]then some 1536 else if w=[115,121,109,98,111,108,112]then some 224 else if w=[115,116,114,105,110,103,112]then some 256
 else if w=[114,97,116,105,111,110,97,108,112]then some 31 else if w=[105,110,116,101,103,101,114,112]then some 7 else none
def pK(f:G.Y):Option Int:=if f.package=[108,105,115,112]then aCx f.name else none
def IbO(x:Rt)(o:Option Int):Prop:= ∃(i:Int) (b:Bool),x=some [⟨.int .i64,i⟩,⟨.bool,b⟩]∧(b=true→o=some i)∧(b=false→o=none)
def ItO(x:Rt)(o:Option Int):Prop:= ∃(i:Int) (t:G.T) (b:Bool),x=some [⟨.int .i64,i⟩,⟨.rc 3,t⟩,⟨.bool,b⟩]∧(b=true→o=some i)∧(b=false→o=none)
theorem ItO.s{i:Int}{t:G.T}:ItO (some [⟨.int .i64,i⟩,⟨.rc 3,t⟩,⟨.bool,true⟩]) (some i):=⟨i,t,true,rfl,fun _=>rfl,fun e=>by cases e⟩
theorem ItO.n{i:Int}{t:G.T}:ItO (some [⟨.int .i64,i⟩,⟨.rc 3,t⟩,⟨.bool,false⟩]) none:=⟨i,t,false,rfl,fun e=>(by cases e),fun _=>rfl⟩
theorem IbO.s{i:Int}:IbO (some [⟨.int .i64,i⟩,⟨.bool,true⟩]) (some i):=⟨i,true,rfl,fun _=>rfl,fun e=>by cases e⟩
theorem IbO.n{i:Int}:IbO (some [⟨.int .i64,i⟩,⟨.bool,false⟩]) none:=⟨i,false,rfl,fun e=>(by cases e),fun _=>rfl⟩
theorem rcgP_ok{f:G.Y}{L n:Nat}:IbO (CTp L (n+2) 87 [⟨.rc 1,f⟩]) (pK f):=by
 rw[c87,F87,B87x0];by_cases h0:f.name=[110,111,116]
 ·rw[decide_eq_true h0,aE];have:pK f=none:=by
   unfold pK;split
   ·rw[h0];rfl
   ·rfl
  rw[this];exact .n
 ·rw[decide_eq_false h0,aC,c114,F114,aKc,pK];by_cases hp:f.package=[108,105,115,112]
  ·rw[decide_eq_true hp,if_pos hp,aCx];simp only[bnT,aC];have go: ∀{w v:List UInt8} {i:Int} {x:Rt} {o:Option Int},IbO (obL (D:=U0.D) [.int .i64,.bool] x fun r=>some [⟨.int .i64,r.1⟩,⟨.bool,r.2.1⟩]) o→IbO (obL (D:=U0.D) [.int .i64,.bool] (cnd (decide (w=v)) (some [⟨.int .i64,i⟩,⟨.bool,true⟩]) x) fun r=>some [⟨.int .i64,r.1⟩,⟨.bool,r.2.1⟩]) (if w=v then some i else o):=by
    intro w v i x o h;by_cases e:w=v
    ·rw[decide_eq_true e,if_pos e,aE,eN];exact .s
    ·rw[decide_eq_false e,if_neg e,aC];exact h
   refine go (go (go (go (go ?_))));rw[decide_eq_false h0,aC,eN];exact .n
  ·rw[decide_eq_false hp,if_neg hp];exact .n
end Go.TV
