import Derived.Test.YtojjcdpfjabepaaGreatDoorKd
import Derived.Laws.BytesString
import Derived.Deep.Upon
set_option linter.unusedVariables false
set_option linter.unusedSimpArgs false
set_option linter.constructorNameAsVariable false
namespace Go.PI
open Go.AI
structure Dp(p p':PSt):Prop where
 next:p.next≤p'.next
 dirty: ∀id,id∈p.dirty→id∈p'.dirty
 wr: ∀id,id∈p.wr→id∈p'.wr
 mem: ∀k,k<p.next→k∉p'.dirty→p'.mem.get k=p.mem.get k
theorem Dp.refl(p:PSt):Dp p p:=⟨nlR _,fun _ h=>h,fun _ h=>h,fun _ _ _=>rfl⟩
theorem Dp.trans{p p' p'':PSt}(h:Dp p p')(h':Dp p' p''):Dp p p'':=
 ⟨Nat.le_trans h.next h'.next,fun id hi=>h'.dirty id (h.dirty id hi),fun id hi=>h'.wr id (h.wr id hi),fun k hk hd=>(h'.mem k (Nat.lt_of_lt_of_le hk h.next) hd).trans (h.mem k hk fun hh=>hd (h'.dirty k hh))⟩
theorem gE{id:Nat}{l:List Nat}{k:Nat}:k∈ins id l↔k=id∨k∈l:=by
 unfold ins;cases h:l.contains id with
 |true=>
  simp only[cdt];constructor
  ·exact .inr
  ·rintro(rfl|h')
   ·simpa using h
   ·exact h'
 |false=>simp[cdf]
theorem Dp.upd(p:PSt)(id:Nat)(o:lP):Dp p (p.upd id o):=
 ⟨nlR _,fun k hk=>gE.2 (.inr hk),fun k hk=>gE.2 (.inr hk),fun k _ hd=>by
  simp only[PSt.upd,Tr.get_set];rw[if_neg (fun e=>hd (gE.2 (.inl e)))]⟩
theorem Dp.mark(p:PSt)(id:Nat)(o:lP):Dp p (p.mark id o):=
 ⟨nlR _,fun k hk=>gE.2 (.inr hk),fun k hk=>hk,fun k _ hd=>by
  simp only[PSt.mark,Tr.get_set];rw[if_neg (fun e=>hd (gE.2 (.inl e)))]⟩
structure Adv(ν:Nu)(γ:Ga)(p:PSt)(σ:St)(ν':Nu)(γ':Ga)(p':PSt)(σ':St):Prop where
 keep:Keep ν γ σ σ'
 mon:Mon σ ν ν'
 out:GoOut σ γ γ'
 dp:Dp p p'
 rz: ∀a cs m,σ.get a=some (.cells cs m)→∃cs' b,σ'.get a=some (.cells cs' {m with tip:=b})
 bx: ∀id a,ν id=some (some a)→id∉p'.wr→σ'.get a=σ.get a∧ν' id=some (some a)
theorem Adv.refl(ν:Nu)(γ:Ga)(p:PSt)(σ:St):Adv ν γ p σ ν γ p σ:=⟨.refl ν γ σ,.refl σ ν,.refl σ γ,.refl p,fun a cs m h=>⟨cs,m.tip,h⟩,fun _ _ h _=>⟨rfl,h⟩⟩
theorem Adv.trans{ν ν' ν'':Nu}{γ γ' γ'':Ga}{p p' p'':PSt}{σ σ' σ'':St}(h:Adv ν γ p σ ν' γ' p' σ')(h':Adv ν' γ' p' σ' ν'' γ'' p'' σ''):Adv ν γ p σ ν'' γ'' p'' σ'':=
 ⟨h.keep.trans h.mon h'.keep h.out,h.mon.trans h'.mon h.keep.dom,h.out.trans h'.out h.keep.dom,h.dp.trans h'.dp,fun a cs m e=>by
  obtain⟨cs',b,h1⟩:=h.rz a cs m e;obtain⟨cs'',b',h2⟩:=h'.rz a cs' _ h1;exact⟨cs'',b',h2⟩,fun id a hi hd=>by
  obtain⟨e1,e2⟩:=h.bx id a hi fun hh=>hd (h'.dp.wr id hh)
  obtain⟨e3,e4⟩:=h'.bx id a e2 hd;exact⟨e3.trans e1,e4⟩⟩
theorem Adv.g{ν:Nu}{γ γ':Ga}{p:PSt}{σ:St}(g:GoOut σ γ γ'):Adv ν γ p σ ν γ' p σ:=⟨.refl ν γ σ,.refl σ ν,g,.refl p,fun a cs m h=>⟨cs,m.tip,h⟩,fun _ _ h _=>⟨rfl,h⟩⟩
def fN(pc:eH)(ac:FuncId→Array Value→St→Option (Value×St)):Prop:=
 ∀g args p v own p',pc g args p=some (v,own,p')→∀(ν:Nu) (γ:Ga) (σ:St) (us:Array Value),Mem ν γ p σ→RL ν σ (args.map (·.1)) us.toList→
  (∀(i:Nat) (x:PV) (w:Value),args[i]?=some (x,true)→us.toList[i]?=some w→Ow ν γ σ (.slot i) x w)→
  ∃u σ' ν' γ',ac g us σ=some (u,σ')∧R ν' σ' v u∧(own=true→Ow ν' γ' σ' .hand v u)∧Mem ν' γ' p' σ'∧Adv ν γ p σ ν' γ' p' σ'∧∀j,j<σ.next→σ.get j=none→σ'.get j=none
section
variable{P:Program}{ν ν':Nu}{γ γ1 γ':Ga}{σ σ':St}{S:PS}{A:Slots}
theorem Mem.some_get{p:PSt}(M:Mem ν γ p σ){id a:Nat}(h:ν id=some (some a)):σ.get a≠none:=by
 obtain⟨o,ho⟩:=M.live id a h;have:=M.get id o ho;cases o with
 |box cs=>obtain⟨a',us,h1,h2,_⟩:=this;rw[h]at h1;simp only[ojE]at h1;subst h1;rw[h2];simp
 |row z ag cs=>obtain⟨a',us,h1,h2,_⟩:=this;rw[h]at h1;simp only[ojE]at h1;subst h1;rw[h2];simp
 |map es=>exact this.elim
 |gone=>simp only[ObjR]at this;rw[h]at this;cases this
theorem Mem.no_tip{p:PSt}(M:Mem ν γ p σ){id a:Nat}(h:ν id=some (some a)){cs:List Value}{m:Mta}(hg:σ.get a=some (.cells cs m)):m.tip=false:=by
 obtain⟨o,ho⟩:=M.live id a h;have:=M.get id o ho;cases o with
 |box cs'=>obtain⟨a',us,h1,h2,_⟩:=this;rw[h]at h1;simp only[ojE]at h1;subst h1;rw[h2]at hg;simp only[ojE,AObj.cells.injEq]at hg;obtain⟨_,rfl⟩:=hg;rfl
 |row z ag cs'=>obtain⟨a',us,h1,h2,_⟩:=this;rw[h]at h1;simp only[ojE]at h1;subst h1;rw[h2]at hg;simp only[ojE,AObj.cells.injEq]at hg;obtain⟨_,rfl⟩:=hg;rfl
 |map es=>exact this.elim
 |gone=>simp only[ObjR]at this;rw[h]at this;cases this
theorem rz_put{id:Nat}{o:AObj}(hf:σ.get id=none): ∀a cs m,σ.get a=some (.cells cs m)→∃cs' b,(σ.put id o).get a=some (.cells cs' {m with tip:=b}):=
 fun a cs m h=>⟨cs,m.tip,by rw[aG,if_neg (fun e=>by rw[e,hf]at h;cases h)];exact h⟩
def vH(γ:Ga):Ga:=fun i=>match γ i with
 |some (.cell id off)=>some (.cell id off)
 |some (.arg i)=>some (.slot i)
 |some _=>some .out
 |none=>none
def after(σ:St)(γ γ':Ga):Ga:=fun i=>match γ i with
 |some (.cell _ _)=>γ' i
 |some (.arg _)=>γ' i
 |none=>γ' i
 |some k=>if(σ.get i).isNone=true then γ' i else some k
theorem aFy{i t:Nat}(h:γ i=some (.slot t))(hn:σ.get i≠none):after σ γ γ' i=some (.slot t):=by cases e:σ.get i with
 |none=>exact absurd e hn
 |some o=>simp[after,h,e]
theorem aIt{i:Nat}(h:γ i=some .out)(hn:σ.get i≠none):after σ γ γ' i=some .out:=by cases e:σ.get i with
 |none=>exact absurd e hn
 |some o=>simp[after,h,e]
theorem aEl{i:Nat}{k:K}(h:γ' i=some k)(hk:k≠ .out)(hg:GoOut σ (vH γ) γ'):after σ γ γ' i=some k:=by
 unfold after;split
 ·exact h
 ·exact h
 ·exact h
 ·rename_i k' hne hne2 hk';split
  ·exact h
  ·rename_i hn;have:vH γ i=some .out:=by
    unfold vH;rw[hk'];cases k'<;>first|rfl|exact absurd rfl (hne _ _)|exact absurd rfl (hne2 _)
   rw[hg i (fun e=>hn (by rw[e];rfl)) this]at h
   simp only[ojE]at h;exact absurd h.symm hk
theorem call_ok{pc:eH}{ac:FuncId→Array Value→St→Option (Value×St)}(hcall:fN pc ac){p p':PSt}(M:Mem ν γ p σ)(F:FR ν γ σ S A){g:Nat}{args:List (PV×Bool)}{us:Array Value}(hr:RL ν σ (args.map (·.1)) us.toList)
    (hown: ∀(i:Nat) (x:PV) (w:Value),args[i]?=some (x,true)→us.toList[i]?=some w→Ow ν γ σ (.arg i) x w) {v:PV} {own:Bool} (h:pc g args p=some (v,own,p')):
    ∃u σ' ν' γ',ac g us σ=some (u,σ')∧R ν' σ' v u∧Mem ν' γ' p' σ'∧FR ν' γ' σ' S A∧(own=true→Ow ν' γ' σ' .hand v u)∧Adv ν γ p σ ν' γ' p' σ'∧∀j,j<σ.next→σ.get j=none→σ'.get j=none:=by
 have Mc:Mem ν (vH γ) p σ:=⟨M.le,M.lt,M.inj,M.live,fun id o ho=>(M.get id o ho).g2 fun i off hi=>by simp only[vH,hi],M.free,M.ver⟩
 obtain⟨u,σ',ν',γ',h1,h2,h3,h4,h5,h6⟩:=hcall g args p v own p' h ν (vH γ) σ us Mc hr (fun i x w hx hw=>(hown i x w hx hw).weak fun j hj=>by simp only[vH,hj])
 refine⟨u,σ',ν',after σ γ γ',h1,h2,?_,?_,fun ho=>(h3 ho).weak fun i hi=>aEl hi (by simp) h5.out,⟨?_,h5.mon,?_,h5.dp,h5.rz,h5.bx⟩,h6⟩
 ·exact⟨h4.le,h4.lt,h4.inj,h4.live,fun id o ho=>(h4.get id o ho).g2 fun i off hi=>aEl hi (by simp) h5.out,h4.free,h4.ver⟩
 ·exact F.keep h5.keep h5.mon fun i t hi hn=>⟨by simp only[vH,hi],aFy hi hn⟩
 ·exact h5.keep.weak fun a ha=>by simp only[vH,ha]
 ·exact fun i hn hi=>aIt hi hn
theorem aAX{es:List PV}{bs:List UInt8}(h:eR es=some bs){us:List Value}(r:RL ν σ es us): ∃ns:List Int,us=ns.map (Value.int .u8)∧bs=ns.map (fun n=>UInt8.ofNat n.toNat)∧AI.bytesOf us=some ns:=by
 induction es generalizing bs us with
 |nil=>simp only[eR,ojE]at h;subst h;have:=r.nil_inv;subst this;exact⟨[],rfl,rfl,rfl⟩
 |cons x es ih=>
  unfold eR at h;split at h
  ·cases ‹_::_=[]›
  ·rename_i n rr e;cases e;rw[mjE]at h;obtain⟨bs',h1,rfl⟩:=h;obtain⟨u,us',rfl,hx,hr⟩:=r.cons_inv;cases hx;obtain⟨ns,rfl,rfl,h4⟩:=ih h1 hr;exact⟨n::ns,rfl,rfl,by simp only[AI.bytesOf,h4];rfl⟩
  ·cases h
theorem vF{es:List PV}{bs:List UInt8}(h:eR es=some bs):eG es=es:=by
 induction es generalizing bs with
 |nil=>rfl
 |cons x es ih=>
  unfold eR at h;split at h
  ·cases ‹_::_=[]›
  ·rename_i n rr e;cases e;rw[mjE]at h;obtain⟨bs',h1,_⟩:=h;have:=ih h1;simp only[eG,fmC,PV.cells]at this⊢;rw[this];rfl
  ·cases h
theorem aHx(ns:List Int)(b:ByteArray):(ns.foldl (fun r n=>r.push (UInt8.ofNat n.toNat)) b).data.toList=b.data.toList++ns.map (fun n=>UInt8.ofNat n.toNat):=by
 induction ns generalizing b with
 |nil=>simp
 |cons n ns ih=>simp only[List.foldl_cons,ih,mpC];simp[ByteArray.push]
theorem aGV{s d:TypeId}{x v:PV}{u:Value}(r:R ν σ x u)(h:tG P s d x=some v):
    ∃w,(match(bif aB u then aL P (convert s d u)else none)with|some y=>some y|none=>mP P σ s d u)=some w∧R ν σ v w:=by
 unfold tG at h;split at h<;>try cases h
 rename_i e hs hd;split at h<;>try cases h
 rename_i he;split at h<;>try cases h
 rename_i es hes;rw[mjE]at h;obtain⟨bs,hb,rfl⟩:=h;have hstr: ∀ns:List Int,bs=ns.map (fun n=>UInt8.ofNat n.toNat)→R ν σ (.str bs) (.string (ns.foldl (fun r n=>r.push (UInt8.ofNat n.toNat)) ByteArray.empty)):=by
  intro ns hn;have:=R.str (ν:=ν) (σ:=σ) (ns.foldl (fun r n=>r.push (UInt8.ofNat n.toNat)) ByteArray.empty)
  rw[aHx]at this;rw[hn];simpa using this
 have hnil: ∃w,(match(bif aB (.slice none 0 0)then aL P (convert s d (.slice none 0 0))else none)with|some y=>some y|none=>mP P σ s d (.slice none 0 0))=some w∧R ν σ (.str []) w:=by
  refine⟨.string ByteArray.empty,?_,.str ByteArray.empty⟩;have:aL P (convert s d (.slice none 0 0))=some (.string ByteArray.empty):=by
   simp only[aL,convert,aA,aD,hs,hd,he,obS,Conv.bytesToString,aC];rfl
  simp only[aB,this];rfl
 rcases jR hes with⟨h1,rfl⟩|h1
 ·simp only[eR,ojE]at hb;subst hb;rcases h1 with rfl|rfl
  ·cases r with
   |emp0=>exact hnil
   |emp1 id off c rcs m hr=>
    refine⟨_,by simp only[aB,cdf,mP,hs,hd,he,hr.1,pT,AI.bytesOf,omS];rfl,?_⟩
    exact hstr [] rfl
   |emp2 b o s' c=>exact⟨_,by simp only[aB,cdf,mP,hs,hd,he];rfl,hstr [] rfl⟩
  ·cases r;exact hnil
 ·subst h1;cases r with
  |sl _ _ id off c rcs m hz hs' hr hm hb' hh=>
   obtain⟨_,_,_,rcs',m',l,k1,k2,k3,k4,k5⟩:=aCO (.sl 1 es id off c rcs m hz hs' hr hm hb' hh);rw[vF hb]at k5;obtain⟨ns,rfl,h2,h3⟩:=aAX hb k5;rw[Nat.mul_one]at k4;exact⟨_,by simp only[aB,cdf,mP,hs,hd,he,k1.1,k4,h3,omS],hstr ns h2⟩
theorem aDz{xs:List PV}{us:List Value}(r:RL ν σ xs us):RL ν σ ((nH xs).map (·.1)) us∧∀(i:Nat) (x:PV),(nH xs)[i]?≠some (x,true):=by
 induction xs generalizing us with
 |nil=>exact⟨r,fun i x h=>by simp[nH]at h⟩
 |cons x xs ih=>
  obtain⟨u,us',rfl,hx,hr⟩:=r.cons_inv;obtain⟨h1,h2⟩:=ih hr;refine⟨.cons hx.wk h1,fun i y h=>?_⟩
  cases i with
  |zero=>simp[nH]at h
  |succ i=>simp only[nH,gcS]at h;exact h2 i y h
theorem jN(xs:List PV):(nH xs).length=xs.length:=by
 induction xs with
 |nil=>rfl
 |cons x xs ih=>simp[nH,ih]
theorem isE_wk(x:PV):isE (PI.wk x)=false:=by
 cases x with
 |sl z es=>cases es<;>rfl
 |tup xs=>
  cases xs with
  |nil=>rfl
  |cons y ys=>
   show isE (.tup (PI.wk y::wks ys))=false;cases y with
   |sl z es=>cases es<;>rfl
   |_=>rfl
 |_=>rfl
theorem isE_tup{x:PV}{xs:List PV}:isE (.tup (x::xs))=match x with| .sl _ []=>true|_=>false:=by
 cases x with
 |sl z es=>cases es<;>rfl
 |_=>rfl
theorem Ow.wk{k:K}{x:PV}{u:Value}(o:Ow ν γ σ k x u)(h:isE x=false):Ow ν γ σ k (wk x) u:=by
 induction o with
 |nil x=>exact .nil _
 |exact x _ _ _ rcs m hr=>exact .exact _ _ _ _ rcs m hr
 |zer x b o=>exact .zer _ b o
 |tip z es id off c rcs m hr ht hw hg hb hk=>
  cases es with
  |nil=>simp[isE]at h
  |cons e es=>exact .tip z (e::es) id off c rcs m hr ht hw hg hb hk
 |tup x xs u us hx o ih=>
  refine .tup _ _ u us ?_ ?_
  ·cases x with
   |sl z es=>cases es<;>rfl
   |agg _=>cases hx
   |tup _=>cases hx
   |und=>cases hx
   |_=>rfl
  cases o with
  |nil=>exact .nil _
  |exact _ _ _ _ rcs m hr=>exact .exact _ _ _ _ rcs m hr
  |zer _ b o=>exact .zer _ b o
  |tip z es id off c rcs m hr ht hw hg hb hk=>
   cases es with
   |nil=>simp[isE]at h
   |cons e es=>exact .tip z (e::es) id off c rcs m hr ht hw hg hb hk
  |tup y ys v vs _ o'=>cases hx
theorem passA_ok{take:Bool}: ∀(xs:List Operand) (n:Nat) (γ:Ga) (S:PS),FR ν γ σ S A→xs.all (aI P)=true→RL ν σ ((iU take S xs).1.map (·.1)) (xs.map (ev A))∧
    ∃γ',FR ν γ' σ (iU take S xs).2 A∧(∀(i:Nat) (x:PV) (w:Value),(iU take S xs).1[i]?=some (x,true)→(xs.map (ev A))[i]?=some w→Ow ν γ' σ (.arg (n+i)) x w)∧G2 γ γ'∧(∀i k,k<n→γ i=some (.arg k)→γ' i=some (.arg k)):=by
 intro xs;induction xs with
 |nil=>intro n γ S F _;exact⟨.nil,γ,F,fun i x w h=>(by simp[iU]at h),.refl γ,fun _ _ _ h=>h⟩
 |cons x xs ih=>
  intro n γ S F hx;simp only[alC,bjE]at hx;have rx:=aT F hx.1;cases take with
  |false=>
   obtain⟨h1,γ',h2,h3,h4,h5⟩:=ih (n+1) γ S F hx.2;refine⟨.cons rx.wk h1,γ',h2,fun i y w hy hw=>?_,h4,fun i k hk hi=>h5 i k (by omega) hi⟩
   cases i with
   |zero=>simp[iU]at hy
   |succ i=>
    simp only[iU,cdf,gcS]at hy;simp only[mpC,gcS]at hw;have:=h3 i y w hy hw;rw[show n+(i+1)=n+1+i by omega];exact this
  |true=>
   obtain⟨γ0,F0,how,g0,ga⟩:=aDE F x hx.1;have F1:FR ν (PI.mv .hand (.arg n) γ0) σ (oT S x) A:=F0.g fun i t hi=>by simp[PI.mv,hi]
   obtain⟨h1,γ',h2,h3,h4,h5⟩:=ih (n+1) _ (oT S x) F1 hx.2;refine⟨.cons rx.wk h1,γ',h2,fun i y w hy hw=>?_,(g0.trans (.mv (by simp) (by simp))).trans h4,fun i k hk hi=>?_⟩
   ·cases i with
    |zero=>
     simp only[iU,gcZ,ojE,pjE]at hy;simp only[mpC,gcZ,ojE]at hw;obtain⟨rfl,hb⟩:=hy;subst hw;simp only[Bool.true_and,bjE,Bool.not_eq_true']at hb;exact(((how hb.1).mv (k':= .arg n)).wk hb.2).weak fun j hj=>h5 j n (by omega) hj
    |succ i=>
     simp only[iU,cdt,gcS]at hy;simp only[mpC,gcS]at hw;have:=h3 i y w hy hw;rw[show n+(i+1)=n+1+i by omega];exact this
   ·exact h5 i k (by omega) (by simp[PI.mv,ga i k hi])
theorem pop_ok{pc:eH}{ac:FuncId→Array Value→St→Option (Value×St)}(hcall:fN pc ac){p p':PSt}{base i:Nat}(M:Mem ν γ p σ)(F:FR ν γ σ S A)(hf:σ.get (base+i)=none)(hlt:base+i<σ.next)
    {o:Oper} (ho:o.op.operands.all (aI P)=true) {sq take own:Bool} {v:PV} {S':PS} (h:pop P pc sq o take S p=some (v,own,S',p')):
    ∃u σ' ν' γ',aop P ac base i o A σ=some (u,σ')∧R ν' σ' v u∧Mem ν' γ' p' σ'∧FR ν' γ' σ' S' A∧(own=true→Ow ν' γ' σ' .hand v u)∧Adv ν γ p σ ν' γ' p' σ'∧
      (∀j,j<σ.next→j≠base+i→σ.get j=none→σ'.get j=none):=by
 unfold pop at h;unfold aop;cases hk:aP o with
 |pure=>
  simp only[hk,mjE,pjE]at h;obtain⟨⟨v',own',S''⟩,hp,rfl,rfl,rfl,rfl⟩:=h;unfold xV at hp;split at hp
  ·rename_i r hpp;simp only[ojE]at hp;subst hp;obtain⟨u,γ',h1,h2,h3,h4,h5⟩:=aDk F ho hpp;exact⟨u,σ,ν,γ',by simp only[fL,h1];rfl,h2,M.g2 h5,h3,h4,.g h5.out,fun j _ _ hj=>hj⟩
  ·cases sq with
   |false=>cases hp
   |true=>
    simp only[cdt]at hp;obtain⟨dst,op,ty,pos,af,g⟩:=o;cases op<;>simp only at hp<;>try cases hp
    rename_i s d x;rw[mjE]at hp;obtain⟨v2,hb,he⟩:=hp;simp only[pjE]at he;obtain⟨rfl,rfl,rfl⟩:=he
    replace ho:=qN ho
    simp only[Op.operands,alC,List.all_nil,bnA]at ho;obtain⟨w,h1,h2⟩:=aGV (aT F ho) hb;exact⟨w,σ,ν,γ,by simp only[fL,fQ,mjE];exact⟨w,h1,rfl⟩,h2,M,F,fun h=>(by cases h),.refl ν γ _ σ,fun j _ _ hj=>hj⟩
 |read=>
  simp only[hk,mjE,pjE]at h;obtain⟨⟨v',own',p''⟩,hp,rfl,rfl,rfl,rfl⟩:=h;obtain⟨u,γ',h1,h2,h3,h4,h5,h6⟩:=pread_ok M F ho hp;refine⟨u,σ,ν,γ',by simp only[h1];rfl,h2,h3,h4,h5,⟨.refl ν γ σ,.refl σ ν,h6,?_,fun a cs m h=>⟨cs,m.tip,h⟩,fun _ _ h _=>⟨rfl,h⟩⟩,fun j _ _ hj=>hj⟩
  obtain⟨dst,op,ty,pos,af,g⟩:=o;cases op with
  |load t a=>
   simp only[jL]at hp;split at hp
   ·rename_i v2 hv;cases hc:take&&aFU v2 with
    |false=>rw[hc,cdf]at hp;simp only[ojE,pjE]at hp;obtain⟨_,_,rfl⟩:=hp;exact .refl p
    |true=>
     rw[hc,cdt]at hp;simp only[ojE,pjE]at hp;obtain⟨_,_,rfl⟩:=hp;unfold dO;split
     ·split
      ·split
       ·exact .mark p _ _
       ·exact .refl p
      ·exact .refl p
     ·exact .refl p
   ·cases hp
  |slice t x lo hi mx=>
   simp only[jL,mjE,pjE]at hp;obtain⟨_,_,_,_,rfl⟩:=hp;exact .refl p
  |_=>simp only[jL]at hp;cases hp
 |alloc=>
  simp only[hk,mjE,pjE]at h;obtain⟨⟨v',own',p''⟩,hp,rfl,rfl,rfl,rfl⟩:=h;obtain⟨u,ob,ν',γ',h1,h2,h3,h4,h5,h6,h7,h8,h9,h10,h11⟩:=aGX M F hf hlt ho hp;refine⟨u,σ.put (base+i) ob,ν',γ',by simp only[h1];rfl,h2,h3,h4,h5,⟨(Keep.put hf).weak fun _ _=>rfl,h6,h7,⟨h8,fun id hd=>by rw[h10.1];exact hd,fun id hd=>by rw[h10.2];exact hd,fun k hk _=>h11 k hk⟩,rz_put hf,fun id a hi _=>⟨by rw[aG,if_neg (fun e=>M.some_get hi (by rw[e];exact hf))],by rw[h9 id (M.le _ _ hi)];exact hi⟩⟩,fun j _ hne hj=>?_⟩
  rw[aG,if_neg hne];exact hj
 |eff=>
  simp only[hk]at h;simp only;obtain⟨dst,op,ty,pos,af,g⟩:=o
  replace ho:=qN ho
  cases op with
  |store t a x=>
   simp only[Op.operands,alC,List.all_nil,bnA,bjE]at ho;simp only[peff,mjE,pjE]at h;obtain⟨p2,hp,rfl,rfl,rfl,rfl⟩:=h;obtain⟨γ0,F0,how,g0⟩:=nI F x ho.2;obtain⟨σ',γ',h1,h2,h3,h4,h5,h6,h7,i0,a0,hi0,hd0,ho0⟩:=aGO (M.g2 g0) F0 (aT F ho.1) (aT F ho.2) how hp;refine⟨undef,σ',ν,γ',by simp only[aAK,h1];rfl,.und _,h2,h3,fun h=>(by cases h),⟨h4.weak fun a ha=>(g0 a).1 ha,.refl σ ν,g0.out.trans h5 (fun _ h=>h),?_,?_,fun id a hi hd=>⟨ho0 a fun e=>hd (by rw[M.inj id i0 a hi (by rw[e];exact hi0)];exact hd0),hi⟩⟩,?_⟩
   ·
    unfold jK at hp;split at hp
    ·split at hp
     ·rename_i cs n _ _;cases hc:Nat.beq (pev S x).cells.length n&&Nat.ble _ cs.length&&(pev S x).cells.all PV.one with
      |false=>rw[hc,cdf]at hp;cases hp
      |true=>rw[hc,cdt]at hp;simp only[ojE]at hp;subst hp;exact .upd p _ _
     ·rename_i z ag cs n _ _;cases hc:Nat.beq (pev S x).cells.length n&&Nat.ble _ cs.length&&(pev S x).cells.all PV.one with
      |false=>rw[hc,cdf]at hp;cases hp
      |true=>rw[hc,cdt]at hp;simp only[ojE]at hp;subst hp;exact .upd p _ _
     ·cases hp
    ·cases hp
   ·intro a' cs m hg;unfold iT at h1;split at h1
    ·split at h1
     ·rename_i cs2 m2 n hrow _;cases hc:m2.wr&&Nat.beq (ev A x).cells.size n&&Nat.ble _ cs2.length&&(ev A x).cells.toList.all one with
      |false=>rw[hc,cdf]at h1;cases h1
      |true=>
       rw[hc,cdt]at h1;split at h1
       ·simp only[ojE]at h1;subst h1;rw[aG];split
        ·rename_i e;subst e;have:=(bO hrow).1;rw[hg]at this;simp only[ojE,AObj.cells.injEq]at this;obtain⟨_,rfl⟩:=this;exact⟨_,m.tip,rfl⟩
        ·exact⟨cs,m.tip,hg⟩
       ·rename_i gg vv hgg;cases hlm:m2.tip&&Nat.ble m2.lim _ with
        |true=>
         rw[hlm,cdt]at h1;simp only[ojE]at h1;subst h1;rw[aG];split
         ·rename_i e;subst e;have:=(bO hrow).1;rw[hg]at this;simp only[ojE,AObj.cells.injEq]at this;obtain⟨_,rfl⟩:=this;exact⟨_,m.tip,rfl⟩
         ·exact⟨cs,m.tip,hg⟩
        |false=>
        rw[hlm,cdf]at h1;simp only[ojE]at h1;subst h1;exfalso;have hv:=h4.vers;have h0:=M.ver gg;have hgood:=(bO hrow).2;simp only[St.good,hgg]at hgood;have hvv:=nqE hgood;have h0':=h2.ver gg;simp only[St.bump,St.ver,Tr.get_set,if_true,Option.getD_some]at h0';omega
     ·cases h1
    ·cases h1
   ·intro j hj hne hn;cases hh:σ'.get j with
    |none=>rfl
    |some ob=>
     exfalso;unfold iT at h1;split at h1
     ·split at h1
      ·rename_i cs2 m2 n hrow _;cases hc:m2.wr&&Nat.beq (ev A x).cells.size n&&Nat.ble _ cs2.length&&(ev A x).cells.toList.all one with
       |false=>rw[hc,cdf]at h1;cases h1
       |true=>
        rw[hc,cdt]at h1;have hput: ∀k o,σ.row k=some (cs2,m2)→(σ.put k o).get j=some ob→False:=fun k o hrow hh=>by
         rw[aG]at hh;split at hh
         ·rename_i e;rw[←e]at hrow;rw[(bO hrow).1]at hn;cases hn
         ·rw[hn]at hh;cases hh
        split at h1
        ·simp only[ojE]at h1;subst h1;exact hput _ _ hrow hh
        ·cases hlm:m2.tip&&Nat.ble m2.lim _ with
         |true=>rw[hlm,cdt]at h1;simp only[ojE]at h1;subst h1;exact hput _ _ hrow hh
         |false=>
         rw[hlm,cdf]at h1;simp only[ojE]at h1;subst h1;have:(σ.put _ _).get j=some ob:=hh;rw[aG]at this;split at this
         ·rename_i e;subst e;rw[(bO hrow).1]at hn;cases hn
         ·rw[hn]at this;cases this
      ·cases h1
     ·cases h1
  |call c=>
   obtain⟨callee,cargs,argTypes⟩:=c;simp only[Op.operands,Call.operands,Array.toList_append,List.all_append,bjE]at ho;have hgen: ∀{g:Nat} {args:List (PV×Bool)},lA take S ⟨callee,cargs,argTypes⟩=some (g,args)→∃us γ',rX (ev A) ⟨callee,cargs,argTypes⟩=some (g,us)∧RL ν σ (args.map (·.1)) us.toList∧
          FR ν γ' σ (iU take S cargs.toList).2 A∧(∀(i:Nat) (x:PV) (w:Value),args[i]?=some (x,true)→us.toList[i]?=some w→Ow ν γ' σ (.arg i) x w)∧G2 γ γ':=by
    intro g' args hc;unfold lA at hc;split at hc
    ·rename_i f hce;simp only at hce;subst hce;simp only[rX];have hfo:aI P f=true:=by simpa using ho.1
     have rf:=aT F hfo;split at hc
     ·rename_i gg first captured hpf
      simp only[ojE,pjE]at hc;obtain⟨rfl,rfl⟩:=hc;rw[hpf]at rf;generalize ev A f=w at rf;cases rf with
      |fn _ _ _ us vs hl hh hl' hh'=>
       have h1:RL ν σ first us.toList:=⟨hl,hh⟩
       have h2:RL ν σ captured vs.toList:=⟨hl',hh'⟩;obtain⟨n1,n2⟩:=aDz h1;obtain⟨m1,m2⟩:=aDz h2;obtain⟨p1,γ',p2,p3,p4,_⟩:=passA_ok (take:=take) cargs.toList first.length γ S F ho.2
       have hpl:(iU take S cargs.toList).1.length=cargs.toList.length:=by have:=p1.1;simpa using this
       refine⟨_,γ',rfl,?_,p2,fun i x w hx hw=>?_,p4⟩
       ·have:=n1.append (p1.append m1);simpa using this
       ·simp only[Array.toList_append,Array.toList_map,apA]at hw;rcases Nat.lt_or_ge i first.length with hi|hi
        ·rw[List.getElem?_append_left (by rw[jN];exact hi)]at hx
         exact absurd hx (n2 i x)
        ·rw[List.getElem?_append_right (by rw[jN];exact hi),jN]at hx
         rw[List.getElem?_append_right (by rw[←h1.1];exact hi),←h1.1]at hw
         rcases Nat.lt_or_ge (i-first.length) cargs.toList.length with hj|hj
         ·rw[List.getElem?_append_left (by rw[hpl];exact hj)]at hx
          rw[List.getElem?_append_left (by rw[List.length_map];exact hj)]at hw
          have:=p3 _ x w hx hw;rw[show first.length+(i-first.length)=i by omega]at this
          exact this
         ·rw[List.getElem?_append_right (by rw[hpl];exact hj)]at hx
          exact absurd hx (m2 _ x)
     ·cases hc
    ·cases hc
   cases callee with
   |builtin b=>
    cases b with
    |append=>
     simp only[peff]at h;simp only[aAK];split at h
     ·rename_i s x hargs;simp only[hargs]at ho⊢;simp only[alC,List.all_nil,bnA,bjE]at ho;simp only[mjE,pjE]at h;obtain⟨⟨v',own',S''⟩,hp,rfl,rfl,rfl,rfl⟩:=h;obtain⟨u,σ',γ',h1,h2,h3,h4,h5,h6,h7,h8⟩:=aFb M F hf hlt ho.2.1 ho.2.2 hp;have hget: ∀j,σ'.get j=σ.get j∨j=base+i∨(∃cs m b,(σ.get j=some (.cells cs m)∧m.tip=true)∧σ'.get j=some (.cells cs {m with tip:=b})):=by
       intro j;unfold gG at h1;split at h1
       ·split at h1
        ·rename_i e d _ _;cases hc:fits d (ev A x)with
         |false=>rw[hc,cdf]at h1;cases h1
         |true=>
          rw[hc,cdt]at h1;split at h1
          ·rename_i info _;split at h1
           ·rename_i n xs z _ _;cases hc2:xs.all one&&Nat.ble 1 info.size&&Nat.ble 1 info.bytes&&Nat.beq z.cells.size info.size&&cV (ev A s)with
            |false=>rw[hc2,cdf]at h1;cases h1
            |true=>
             rw[hc2,cdt]at h1;cases hc3:Nat.beq n 0 with
             |true=>rw[hc3,cdt]at h1;simp only[ojE,pjE]at h1;obtain⟨_,rfl⟩:=h1;exact .inl rfl
             |false=>
              rw[hc3,cdf]at h1;have hput: ∀o,(σ.put (base+i) o).get j=σ.get j∨j=base+i∨(∃cs m b,(σ.get j=some (.cells cs m)∧m.tip=true)∧(σ.put (base+i) o).get j=some (.cells cs {m with tip:=b})):=fun o=>by
               rw[aG];by_cases e:j=base+i
               ·exact .inr (.inl e)
               ·rw[if_neg e];exact .inl rfl
              unfold iZ at h1;split at h1
              ·cases hc4:Nat.ble (n*info.bytes) 1073741824 with
               |false=>rw[hc4,cdf]at h1;cases h1
               |true=>rw[hc4,cdt]at h1;simp only[ojE,pjE]at h1;obtain⟨_,rfl⟩:=h1;exact hput _
              ·rename_i id off len k _;cases hc4:Nat.ble ((len+n)*info.bytes) 1073741824 with
               |false=>rw[hc4,cdf]at h1;cases h1
               |true=>
                rw[hc4,cdt]at h1;split at h1
                ·rename_i cs m hrow;split at h1
                 ·rename_i old _;cases hc5:Nat.beq k len with
                  |true=>rw[hc5,cdt]at h1;simp only[ojE,pjE]at h1;obtain⟨_,rfl⟩:=h1;exact hput _
                  |false=>
                   rw[hc5,cdf]at h1;cases hc6:m.tip&&m.wr&&Nat.beq m.z info.size&&Nat.beq (off+len*info.size) cs.length&&m.grp.isSome with
                   |false=>rw[hc6,cdf]at h1;cases h1
                   |true=>
                    rw[hc6,cdt]at h1;simp only[ojE,pjE]at h1;obtain⟨_,rfl⟩:=h1;rw[aG];by_cases e:j=base+i
                    ·exact .inr (.inl e)
                    ·rw[if_neg e,aG];by_cases e2:j=id
                     ·subst e2;rw[if_pos rfl];exact .inr (.inr ⟨cs,m,false,⟨(bO hrow).1,by simp only[bjE]at hc6;exact hc6.1.1.1.1⟩,rfl⟩)
                     ·rw[if_neg e2];exact .inl rfl
                 ·cases h1
                ·cases h1
              ·rename_i b0 o0 s0 l0 k0 _;cases hc4:Nat.beq s0 1&&Nat.ble (n*info.bytes) 1073741824 with
               |false=>rw[hc4,cdf]at h1;cases h1
               |true=>rw[hc4,cdt]at h1;simp only[ojE,pjE]at h1;obtain⟨_,rfl⟩:=h1;exact hput _
              ·cases h1
           ·cases h1
          ·cases h1
        ·cases h1
       ·cases h1
      refine⟨u,σ',ν,γ',h1,h2,h3,h4,h5,⟨h6,.refl σ ν,h7,.refl p,fun a cs m hg=>?_,fun id a hi _=>⟨?_,hi⟩⟩,fun j hj hne hn=>?_⟩
      ·rcases hget a with e|e|⟨cs',m',b,e1,e2⟩
       ·exact⟨cs,m.tip,by rw[e];exact hg⟩
       ·subst e;rw[hf]at hg;cases hg
       ·rw[hg]at e1;simp only[ojE,AObj.cells.injEq]at e1;obtain⟨⟨rfl,rfl⟩,_⟩:=e1;exact⟨_,b,e2⟩
      ·rcases hget a with e|e|⟨cs',m',b,e1,e2⟩
       ·exact e
       ·exact absurd (e▸hf) (M.some_get hi)
       ·exfalso;have:=M.no_tip hi e1.1;rw[e1.2]at this;cases this
      ·rcases hget j with e|e|⟨cs',m',b,e1,e2⟩
       ·rw[e];exact hn
       ·exact absurd e hne
       ·rw[hn]at e1;cases e1.1
     ·cases h
    |_=>simp only[peff,lA]at h;cases h
   |invoke r m=>simp only[peff,lA]at h;cases h
   |value f=>
    simp only[peff]at h;simp only[aAK];split at h
    ·rename_i g' args hc;obtain⟨us,γ1,hu,hrl,F1,hown,g1⟩:=hgen hc;simp only[hu];simp only[mjE,pjE]at h;obtain⟨⟨v',own',p2⟩,hp,rfl,rfl,rfl,rfl⟩:=h;obtain⟨u,σ',ν',γ',h1,h2,h3,h4,h5,h6,h7⟩:=call_ok hcall (M.g2 g1) F1 hrl hown hp;exact⟨u,σ',ν',γ',h1,h2,h3,h4,h5,(Adv.g g1.out).trans h6,fun j hj _ hn=>h7 j hj hn⟩
    ·cases h
  |_=>simp only[peff]at h;cases h
end
end Go.PI
namespace Go.PI
open Go.AI
structure Qt(σ σ':St):Prop where
 vers:σ'.vers=σ.vers
 get: ∀a ob,σ.get a=some ob→σ'.get a=some ob∨∃cs m b,ob= .cells cs m∧m.tip=true∧σ'.get a=some (.cells cs {m with tip:=b})
theorem Qt.refl(σ:St):Qt σ σ:=⟨rfl,fun a ob h=> .inl h⟩
theorem Qt.bx{ν:Nu}{γ:Ga}{σ σ':St}{p:PSt}(q:Qt σ σ')(M:Mem ν γ p σ){id a:Nat}(h:ν id=some (some a)):σ'.get a=σ.get a:=by
 cases e:σ.get a with
 |none=>exact absurd e (M.some_get h)
 |some ob=>
  rcases q.get a ob e with e1|⟨cs,m,b,e1,e2,_⟩
  ·exact e1
  ·subst e1;rw[M.no_tip h e]at e2;cases e2
theorem Tr.setF_setF{α:Type}: ∀(f:Nat) (t:Tr α) (n:Nat) (x y:α),Tr.setF f (Tr.setF f t n x) n y=Tr.setF f t n y:=by
 intro f;induction f with
 |zero=>intro t n x y;rfl
 |succ f ih=>
  intro t n x y;cases t with
  |nil=>
   simp only[Tr.setF];cases h:Nat.beq n 0 with
   |true=>simp only[cdt,Tr.setF,h]
   |false=>
    simp only[cdf];cases h2:Nat.beq (n%2) 1 with
    |true=>simp only[cdt,Tr.setF,h,h2,cdf,ih]
    |false=>simp only[cdf,Tr.setF,h,h2,ih]
  |node v l r=>
   simp only[Tr.setF];cases h:Nat.beq n 0 with
   |true=>simp only[cdt,Tr.setF,h]
   |false=>
    simp only[cdf];cases h2:Nat.beq (n%2) 1 with
    |true=>simp only[cdt,Tr.setF,h,h2,cdf,ih]
    |false=>simp only[cdf,Tr.setF,h,h2,ih]
theorem Tr.set_set{α:Type}(t:Tr α)(n:Nat)(x y:α):Tr.set (Tr.set t n x) n y=Tr.set t n y:=Tr.setF_setF _ t n x y
theorem put_put(σ:St)(id:Nat)(a b:AObj):(σ.put id a).put id b=σ.put id b:=by
 simp only[St.put,Tr.set_set]
section
variable{P:Program}{ν ν':Nu}{γ γ1 γ':Ga}{σ σ':St}{S:PS}{A:Slots}
theorem aFx{p:PSt}{id z bytes:Nat}(M:Mem ν γ p σ)(F:FR ν γ σ S A)(hf:σ.get id=none)(hlt:id<σ.next)(hz1:1≤z){x:PV}{w:Value}{es:List PV}(hes:lK z x=some es)(rs:R ν σ x w)(how:Ow ν γ σ .hand x w):
    ∃old σc m,RL ν σc (eG es) old∧(∀n vals,Nat.ble ((es.length+n)*bytes) 1073741824=true→iZ σ id z bytes n vals w=some (.slice (some ⟨id,0,none⟩) (es.length+n) (es.length+n+1),σc.put id (.cells (old++vals) m)))∧
      (∀e∈es,e.cells.length=z∧e.cells.all PV.pur=true)∧Mem ν γ p σc∧FR ν γ σc S A∧σc.get id=none∧σc.next=σ.next∧m.z=z∧m.tip=true∧m.wr=true∧m.grp.isSome=true∧σc.good m=true∧m.lim≤old.length∧
      Keep ν γ σ σc∧Qt σ σc∧old.length=es.length*z∧(∀j,σ.get j=none→σc.get j=none):=by
 have hgt:=aF6 M z id;rcases jR hes with⟨h1,rfl⟩|h1
 ·have rse:R ν σ .emp w:=by
   rcases h1 with rfl|rfl
   ·exact rs
   ·cases rs;exact .emp0
  have how':Ow ν γ σ .hand .emp w∨w= .slice none 0 0:=by
   rcases h1 with rfl|rfl
   ·exact .inl how
   ·right;cases rs;rfl
  refine⟨[],σ,cS z id,.nil,fun n vals hlim=>?_,fun e he=>by simp at he,M,F,hf,rfl,rfl,rfl,rfl,rfl,hgt,nlR _,.refl ν γ σ,.refl σ,by simp,fun _ h=>h⟩
  simp only[lnN,Nat.zero_add]at hlim⊢;cases rse with
  |emp0=>simp only[iZ,hlim,cdt];rfl
  |emp1 id0 off c rcs m hr=>
   have:c=0:=by
    rcases how' with how|how
    ·cases how;rfl
    ·cases how
   subst this;simp only[iZ,Nat.zero_add,hlim,cdt,hr.1,Nat.zero_mul,pT];rfl
  |emp2 b o s' c=>
   rcases how' with how|how
   ·cases how;have hq:(Nat.beq 1 1&&Nat.ble (n*bytes) 1073741824)=true:=by rw[hlim];rfl
    simp only[iZ,hq,cdt];rfl
   ·cases how
 ·subst h1;obtain⟨id0,off,cc,rcs,m,l,hw,hr,hmz,hb,hl,hrl,hse⟩: ∃id0 off cc rcs m l,w= .slice (some ⟨id0,off,none⟩) es.length cc∧Fz ν σ id0 rcs m∧m.z=z∧off+es.length*z≤rcs.length∧cut rcs off (es.length*z)=some l∧RL ν σ (eG es) l∧(∀e∈es,e.cells.length=z∧e.cells.all PV.pur=true):=by
   cases rs with
   |sl _ _ id0 off cc rcs m hz hs hr hm hb hh=>
    obtain⟨_,_,hs',rcs',m',l,k1,k2,k3,k4,k5⟩:=aCO (.sl z es id0 off cc rcs m hz hs hr hm hb hh);exact⟨id0,off,cc,rcs',m',l,rfl,k1,k2,k3,k4,k5,hs'⟩
  have hll:l.length=es.length*z:=by rw[←hrl.1,cZ (fun e he=>(hse e he).1)]
  subst hw;by_cases hcc:cc=es.length
  ·refine⟨l,σ,cS z id,hrl,fun n vals hlim=>?_,hse,M,F,hf,rfl,rfl,rfl,rfl,rfl,hgt,Nat.zero_le _,.refl ν γ σ,.refl σ,hll,fun _ h=>h⟩
   rw[hcc];simp only[iZ,hlim,cdt,hr.1,hl];rw[show Nat.beq es.length es.length=true by simp[cJ]]
   rfl
  ·cases how with
   |exact=>exact absurd rfl hcc
   |tip z0 es0 _ _ _ rcs2 m2 hr2 ht hwr hg hb2 hk=>
    have:rcs2=rcs∧m2=m:=by have:=hr2.1;rw[hr.1]at this;simp only[ojE,pjE]at this;exact⟨this.1.symm,this.2.symm⟩
    obtain⟨rfl,rfl⟩:=this;obtain⟨hget,hgood⟩:=bO hr.1;have hii:id0≠id:=fun e=>by rw[e,hf]at hget;cases hget
    have kp:Keep ν (fun i=>if i=id0 then none else some .out) σ (σ.put id0 (.cells rcs2 {m2 with tip:=false})):=by
     refine⟨rfl,nlR _,fun a ha=>?_,fun a hn cs m hg'=>?_⟩
     ·rw[aG]at ha;split at ha
      ·cases ha
      ·exact ha
     ·by_cases e:a=id0
      ·subst e;rw[hget]at hg';simp only[ojE,AObj.cells.injEq]at hg';obtain⟨rfl,rfl⟩:=hg';refine⟨false,by rw[aG,if_pos rfl],fun _=>rfl,fun h=>?_⟩
       simp at h
      ·exact⟨m.tip,by rw[aG,if_neg e];exact hg',fun h=>h,fun _=>rfl⟩
    have hkk: ∀i k,γ i=some k→k≠ .hand→(if i=id0 then none else some K.out)=some K.out:=fun i k hi hk'=>by
     rw[if_neg];intro e;rw[e,hk]at hi;simp only[ojE]at hi;exact hk' hi.symm
    refine⟨l,σ.put id0 (.cells rcs2 {m2 with tip:=false}),{m2 with lim:=l.length},hrl.keep kp (.refl σ ν),fun n vals hlim=>?_,hse,?_,F.keep kp (.refl σ ν) fun i t hi _=>⟨hkk i _ hi (by simp),hi⟩,
     by rw[aG,if_neg (Ne.symm hii)];exact hf,rfl,hmz,ht,hwr,hg,hgood,nlR _,kp.weak fun a ha=>hkk a _ ha (by simp),?_,hll,fun j hj=>by rw[aG,if_neg (fun e=>by rw[e,hget]at hj;cases hj)];exact hj⟩
    ·simp only[iZ,hlim,cdt,hr.1,hl];rw[show Nat.beq cc es.length=false by rw[cJ];simp[hcc]]
     simp only[cdf];rw[show(m2.tip&&m2.wr&&Nat.beq m2.z z&&Nat.beq (off+es.length*z) rcs2.length&&m2.grp.isSome)=true by
      rw[hmz]at hb2;simp only[ht,hwr,hg,cJ,hmz,hb2,decide_true,Bool.and_self]]
     rfl
    ·refine⟨M.le,M.lt,M.inj,M.live,fun k o hk'=>?_,fun a ha=>?_,M.ver⟩
     ·refine(M.get k o hk').keep kp (.refl σ ν) rfl (fun a ha=>?_) fun i off' hi _=>⟨hkk i _ hi (by simp),hi⟩
      rw[aG,if_neg (fun e=>hr.2 k (by rw[←e];exact ha))]
     ·rw[aG,if_neg (fun e=>by subst e;rw[M.free a ha]at hget;cases hget)];exact M.free a ha
    ·refine⟨rfl,fun a ob hg'=>?_⟩
     rw[aG];by_cases e2:a=id0
     ·subst e2;rw[hget]at hg';simp only[ojE]at hg';subst hg';rw[if_pos rfl];exact .inr ⟨rcs2,m2,false,rfl,ht,rfl⟩
     ·rw[if_neg e2];exact .inl hg'
theorem lJ{a:Nat}{x:Operand}(h:isT a x=false)(u:Value):ev (A.store (some a) u) x=ev A x:=by
 cases x with
 |tmp t=>
  simp only[isT,cJ,dfN]at h;simp only[ev,Slots.store,wU];rw[if_neg (fun e=>h e.symm)]
 |_=>rfl
theorem R.pin_of{z:Nat}{fs:List PV}{v:Value}(h:R ν σ (.sl z fs) v){id len cap:Nat}(e:v= .slice (some ⟨id,0,none⟩) len cap)(k:Nat):R ν σ (.pin fs k 0) (.pointer (some ⟨id,0+k*z,none⟩)):=by
 cases h with
 |sl _ _ id' off c rcs m hz hs hr hm hb h=>
  simp only[Value.slice.injEq,ojE,Addr.mk.injEq]at e;obtain⟨⟨rfl,rfl,_⟩,_,_⟩:=e;exact R.pin z fs k 0 id' 0 rcs m hs hr hb h
theorem aDr{ac:FuncId→Array Value→St→Option (Value×St)}{p:PSt}{base:Nat}{oA oI oS:Oper}{iA iI iS:Nat}(M:Mem ν γ p σ)(F:FR ν γ σ S A)(hf:σ.get (base+iA)=none)(hlt:base+iA<σ.next)
    (hA:oA.op.operands.all (aI P)=true) (hI:oI.op.operands.all (aI P)=true) (hS:oS.op.operands.all (aI P)=true) {S':PS} (h:aFc P S oA oI oS=some S'):
    ∃u1 u2 σ1 σ2 γ',aAK P ac σ (ev A) oA (base+iA)=some (u1,σ1)∧fQ P (ev (A.store oA.dst u1)) oI=some u2∧aAK P ac σ1 (ev ((A.store oA.dst u1).store oI.dst u2)) oS (base+iS)=some (undef,σ2)∧
      aP oA= .eff∧aP oI= .pure∧aP oS= .eff∧oA.guard=none∧oI.guard=none∧oS.guard=none∧oS.dst=none∧iD oA=true∧
      Mem ν γ' p σ2∧FR ν γ' σ2 S' ((A.store oA.dst u1).store oI.dst u2)∧Adv ν γ p σ ν γ' p σ2∧Qt σ σ1∧Qt σ σ2∧σ1.next=σ.next∧(∀j,j≠base+iA→σ.get j=none→σ1.get j=none∧σ2.get j=none):=by
 obtain⟨dA,opA,tyA,posA,afA,gA⟩:=oA;obtain⟨dI,opI,tyI,posI,afI,gI⟩:=oI;obtain⟨dS,opS,tyS,posS,afS,gS⟩:=oS;unfold aFc at h;split at h
 ·rename_i c a t1 a' n b t2 b' x e1 e2 e3 e4 e5 e6;simp only at e1 e2 e3 e4 e5 e6;subst e1 e2 e3 e4 e5 e6;obtain⟨callee,cargs,ats⟩:=c;split at h
  ·rename_i s zz ec ea;simp only at ec ea;subst ec;cases hc:Nat.beq a a'&&Nat.beq b b'&& !Nat.beq a b&& !isT a n&& !isT a x&& !isT b x&&gA.isNone&&gI.isNone&&gS.isNone with
   |false=>rw[hc,cdf]at h;cases h
   |true=>
    rw[hc,cdt]at h;simp only[bjE,Bool.not_eq_true',Option.isNone_iff_eq_none]at hc;obtain⟨⟨⟨⟨⟨⟨⟨⟨ha,hb⟩,hab⟩,hn⟩,hxa⟩,hxb⟩,hgA⟩,hgI⟩,hgS⟩:=hc;have ha:=nqE ha;subst ha;have hb:=nqE hb;subst hb;have hab:a≠b:=by intro e;rw[e]at hab;simp[cJ]at hab
    subst hgA hgI hgS;rw[mjE]at h;obtain⟨v,hv,rfl⟩:=h
    replace hA:=qN hA
    replace hI:=qN hI
    replace hS:=qN hS
    simp only[Op.operands,Call.operands,Array.toList_append,List.all_append,bjE,ea,alC,List.all_nil,bnA]at hA;simp only[Op.operands,alC,List.all_nil,bnA,bjE]at hI hS;unfold pappV at hv;split at hv
    ·rename_i t tz hts;split at hv
     ·rename_i e d he hd;split at hv
      ·rename_i info ag hi hag;split at hv
       ·rename_i es y zv kk k hes hsrc hzv hk;cases hc2:Nat.ble 1 info.size&&Nat.ble 1 info.bytes&&Nat.beq zv.cells.size info.size&&hJ S s&&Nat.ble ((es.length+1)*info.bytes) 1073741824&&Nat.beq t1 t&&Nat.beq t2 e&&decide (k=(es.length:Int))&&shape ag info.size (pev S x)with
        |false=>rw[hc2,cdf]at hv;cases hv
        |true=>
         rw[hc2,cdt]at hv;simp only[ojE]at hv;subst hv;simp only[bjE,djE]at hc2;obtain⟨⟨⟨⟨⟨⟨⟨⟨c1,c2⟩,c3⟩,c4⟩,c5⟩,c6⟩,c7⟩,c8⟩,c9⟩:=hc2;have c6:=nqE c6;subst c6;have c7:=nqE c7;subst c7;subst c8;have hz1:=Nat.le_of_ble_eq_true c1;obtain⟨zvals,hz2,hz3,hz4,hz5⟩:=tB (aT F hA.2.2) hz1 hsrc;obtain⟨γ0,F0,how,g0⟩:=nI F s hA.2.1;have M0:=M.g2 g0;obtain⟨old,σc,m,k1,k2,k3,k4,k5,k6,k7,k8,k9,k10,k11,k12,k13,k14,k15,k16,k17⟩:=aFx (bytes:=info.bytes) M0 F0 hf hlt hz1 hes (aT F hA.2.1) (how c4);have hag1:=k2 1 zvals c5;have hzl:zvals.length=info.size:=by
          rw[←hz3.1];simp only[eG,fmC,fmN,apN];exact(hz4 y (by simp)).1
         have hone:zvals.all one=true:=hz3.one (by
          simp only[eG,fmC,fmN,apN];exact mB (hz4 y (by simp)).2)
         have hsl:cV (ev A s)=true:=by
          have rs:=aT F hA.2.1;rcases jR hes with⟨h1|h1,_⟩|h1<;>rw[h1]at rs<;>generalize ev A s=w at rs<;>cases rs<;>rfl
         have hts:ats.toList=[t1,tz]:=hts;have hap:gG P σ (base+iA) ⟨.builtin .append,cargs,ats⟩ (ev A s) (ev A zz)=some (.slice (some ⟨base+iA,0,none⟩) (es.length+1) (es.length+1+1),σc.put (base+iA) (.cells (old++zvals) m)):=by
          unfold gG;simp only[hts,he,hd,hi,hz5,cdt,hz2,hzv];rw[show(zvals.all one&&Nat.ble 1 info.size&&Nat.ble 1 info.bytes&&Nat.beq zv.cells.size info.size&&cV (ev A s))=true by
           simp only[hone,c1,c2,c3,hsl,Bool.and_self]]
          exact hag1
         obtain⟨xl,xp⟩:=lX c9;have rx:=aT F hS.2;have hxc:=rx.cells (mB xp);have hxcl:(ev A x).cells.toList.length=info.size:=by rw[←hxc.1,xl]
         have hsz:jD P t2=some info.size:=by simp only[jD,hi];rfl
         have hwx:(wk (pev S x)).cells.length=info.size:=by rw[fS,eM,xl]
         have hxr:RL ν σc (eG [wk (pev S x)]) (ev A x).cells.toList:=by
          simp only[eG,fmC,fmN,apN];rw[fS];exact hxc.wks.keep k14 (.refl σ ν)
         obtain⟨γ',j1,j2,j3,j4,j5,j6⟩:=vU (m:=m) (xs:=[wk (pev S x)]) k4 k5 k6 (by rw[k7];exact hlt) hz1 (fun q hq=>by
          rcases List.mem_append.1 hq with hq|hq
          ·exact k3 q hq
          ·simp only[List.mem_singleton]at hq;subst hq;exact⟨hwx,by rw[fS];exact uJ xp⟩) k1 hxr k8 k9 k10 k11 k12 (es.length+1+1) (by simp)
         have hmk:cQ info.size (es++ [wk (pev S x)])= .sl info.size (es++ [wk (pev S x)]):=by
          cases hh:es++ [wk (pev S x)]with
          |nil=>simp at hh
          |cons q l=>rfl
         rw[hmk]at j1 j4;have hst:iT P (σc.put (base+iA) (.cells (old++zvals) m)) t2 (.pointer (some ⟨base+iA,0+es.length*info.size,none⟩)) (ev A x)=some (σc.put (base+iA) (.cells (old++(ev A x).cells.toList) m)):=by
          have hrow:(σc.put (base+iA) (.cells (old++zvals) m)).row (base+iA)=some (old++zvals,m):=row_of_get (by rw[aG,if_pos rfl]) k12
          simp only[iT,hrow,hsz];rw[show(m.wr&&Nat.beq (ev A x).cells.size info.size&&Nat.ble (0+es.length*info.size+info.size) (old++zvals).length&&(ev A x).cells.toList.all one)=true by
           rw[hxc.one (mB xp),cJ,aFg];simp only[Array.length_toList]at hxcl;simp only[k10,hxcl,decide_true,bnA,Bool.true_and,djE,lnA,hzl,k16];omega]
          simp only[cdt];have hput:eZ (old++zvals) (0+es.length*info.size) (ev A x).cells.toList=old++(ev A x).cells.toList:=by
           rw[uY _ _ _ (by simp only[lnA,hzl,k16,hxcl];omega),Nat.zero_add,←k16,List.take_left',hxcl]
           ·rw[List.drop_eq_nil_of_le (by simp only[lnA,hzl];omega),apN]
           ·rfl
          rw[hput];obtain⟨⟨g,v⟩,hgv⟩:=Option.isSome_iff_exists.1 k11;rw[hgv];simp only;rw[show(m.tip&&Nat.ble m.lim (0+es.length*info.size))=true by rw[k9,aFg];simp only[Bool.true_and,djE];omega]
          simp only[cdt,put_put]
         have hq1:Qt σ (σc.put (base+iA) (.cells (old++zvals) m)):=⟨k15.vers,fun q ob hq=>by
          rw[aG,if_neg (fun e=>by rw[e,hf]at hq;cases hq)];exact k15.get q ob hq⟩
         have hq2:Qt σ (σc.put (base+iA) (.cells (old++(ev A x).cells.toList) m)):=⟨k15.vers,fun q ob hq=>by
          rw[aG,if_neg (fun e=>by rw[e,hf]at hq;cases hq)];exact k15.get q ob hq⟩
         obtain⟨γ1,F1,g1⟩:=j3.put (d:=some a) j1 (fun _=>j4)
         have hpin:R ν (σc.put (base+iA) (.cells (old++(ev A x).cells.toList) m)) (pinL (.sl info.size (es++ [wk (pev S x)]))) (.pointer (some ⟨base+iA,0+es.length*info.size,none⟩)):=by
          have hle:(es++ [wk (pev S x)]).length-1=es.length:=by simp
          simp only[pinL,hle];exact R.pin_of j1 rfl es.length
         obtain⟨γ2,F2,g2⟩:=F1.put (d:=some b) (v:=pinL (.sl info.size (es++ [wk (pev S x)]))) (u:= .pointer (some ⟨base+iA,0+es.length*info.size,none⟩)) (own:=false) hpin (fun h=>by cases h)
         refine⟨.slice (some ⟨base+iA,0,none⟩) (es.length+1) (es.length+1+1),.pointer (some ⟨base+iA,0+es.length*info.size,none⟩),_,_,γ2,?_,?_,?_,rfl,rfl,rfl,rfl,rfl,rfl,rfl,rfl,(j2.g2 g1).g2 g2,F2,⟨?_,.refl σ ν,?_,.refl p,?_,fun _ _ hi _=>⟨hq2.bx M hi,hi⟩⟩,hq1,hq2,k7,fun j hj hn=>?_⟩
         ·simp only[aAK,ea];exact hap
         ·simp only[fQ];have hnk:ev (A.store (some a) (.slice (some ⟨base+iA,0,none⟩) (es.length+1) (es.length+1+1))) n= .int kk (es.length:Int):=by
           rw[lJ hn];have rn:=aT F hI.2;rw[hk]at rn;generalize ev A n=w at rn;cases rn;rfl
          have hak:ev (A.store (some a) (.slice (some ⟨base+iA,0,none⟩) (es.length+1) (es.length+1+1))) (.tmp a)= .slice (some ⟨base+iA,0,none⟩) (es.length+1) (es.length+1+1):=by
           simp only[ev,Slots.store,wU,if_true]
          rw[hnk,hak];simp only[cO,he,hsz];rw[show aZ (es.length:Int) (es.length+1)=true by simp only[aZ,bjE,djE];omega]
          simp only[cdt,Int.toNat_natCast]
         ·simp only[aAK];have hx1:ev ((A.store (some a) (.slice (some ⟨base+iA,0,none⟩) (es.length+1) (es.length+1+1))).store (some b) (.pointer (some ⟨base+iA,0+es.length*info.size,none⟩))) x=ev A x:=by
           rw[lJ hxb,lJ hxa]
          have hb1:ev ((A.store (some a) (.slice (some ⟨base+iA,0,none⟩) (es.length+1) (es.length+1+1))).store (some b) (.pointer (some ⟨base+iA,0+es.length*info.size,none⟩))) (.tmp b)= .pointer (some ⟨base+iA,0+es.length*info.size,none⟩):=by
           simp only[ev,Slots.store,wU,if_true]
          rw[hx1,hb1,hst];rfl
         ·have:=Keep.trans (γ:=γ0) k14 (.refl σ ν) (j5.weak (γ:=γ0) fun _ _=>rfl) (.refl σ γ0)
          exact this.weak fun q hq=>(g0 q).1 hq
         ·exact((g0.out (σ:=σ)).trans j6 (fun q hq=>k14.dom q hq)).trans ((g1.trans g2).out (σ:=σ)) (fun _ h=>h)
         ·intro q cs mm hq;rcases hq2.get q _ hq with e|⟨cs',m',b',e1,_,e2⟩
          ·exact⟨cs,mm.tip,e⟩
          ·simp only[AObj.cells.injEq]at e1;obtain⟨rfl,rfl⟩:=e1;exact⟨_,b',e2⟩
         ·have hc0:=k17 j hn;exact⟨by rw[aG,if_neg hj];exact hc0,by rw[aG,if_neg hj];exact hc0⟩
       ·cases hv
      ·cases hv
     ·cases hv
    ·cases hv
  ·cases h
 ·cases h
end
end Go.PI
namespace Go.AI
section
variable{w0:W0}{P:Program}{μ:Mp}{σ:St}{w:World}
theorem pU{cs l:List Value}{off n:Nat}(h:cut cs off n=some l):l=(cs.drop off).take n∧n≤cs.length-off:=by
 unfold cut at h;simp only[cJ,Bool.cond_decide]at h;split at h
 ·rename_i hl;cases h;refine⟨rfl,?_⟩;simp at hl;omega
 ·cases h
theorem uU{C:Array Value}{cs:List Value}{o off n:Nat}(hrow: ∀(i:Nat) (v:Value),cs[i]?=some v→∃u,C[o+i]?=some u∧VR μ v u)(hl:n≤cs.length-off):
    VRL μ ((cs.drop off).take n) ((C.toList.drop (o+off)).take n):=by
 have hsz:n=0∨o+off+n≤C.size:=by
  rcases Nat.eq_zero_or_pos n with h|h
  ·exact .inl h
  ·right;have:off+n-1<cs.length:=by omega
   obtain⟨u,hu,_⟩:=hrow (off+n-1) _ (geG this);have:=(Array.getElem?_eq_some_iff.1 hu).1;omega
 refine⟨by simp;omega,fun i x u hx hu=>?_⟩
 rw[List.getElem?_take]at hx hu;split at hx
 ·rename_i hi;rw[if_pos hi]at hu;rw[List.getElem?_drop]at hx hu;obtain⟨u',hu',hr⟩:=hrow _ _ hx;have:C.toList[o+off+i]?=some u':=by rw[Nat.add_assoc];simpa using hu'
  rw[this]at hu;cases hu;exact hr
 ·cases hx
theorem wI{w:World}{b o:Nat}{C:Array Value}{t:TypeId}{fr:Nat×Nat}(h:w.heap[b]?=some (.cells C t fr)):w.cell? ⟨b,o,none⟩=C[o]?:=by
 simp[World.cell?,h]
theorem aGr{w:World}{b o n:Nat}{C:Array Value}{t:TypeId}{fr:Nat×Nat}(h:w.heap[b]?=some (.cells C t fr))(hl:((C.toList.drop o).take n).length=n):
    (loadCells ⟨b,o,none⟩ n).run P w= .ok ((C.toList.drop o).take n).toArray w:=by
 have:=run_loadCells_list (P:=P) w ⟨b,o,none⟩ ((C.toList.drop o).take n) (fun j v hj=>by
  rw[eT,wI h];rw[List.getElem?_take]at hj;split at hj
  ·rw[List.getElem?_drop]at hj;simpa using hj
  ·cases hj)
 rw[hl]at this;exact this
theorem pX{t:TypeId}{a b v:Value}(S:Sim w0 P μ σ w)(r:VR μ a b)(h:fD P σ t a=some v): ∃v',(Instr.loadAt t b).run P w= .ok v' w∧VR μ v v':=by
 unfold fD at h;split at h<;>try cases h
 rename_i id off;obtain⟨p,hp,rfl⟩:=r.ptr_inv;split at h<;>try cases h
 rename_i cs m hrow;obtain⟨hg,hgood⟩:=St.row_some hrow;obtain⟨C,ty,fr,hC,hcs,_⟩:=(S.row id p cs m hp hg hgood).row;unfold Instr.loadAt;simp only[Instr.sureAddr,loadVar,Sem.run_bind,Sem.run_pure,Result.andThen_ok];split at h<;>try cases h
 ·rename_i hag;rw[dL (by rw[kX];exact hag)]
  split at h<;>try cases h
  rename_i n hn;rw[mjE]at h;obtain⟨l,hl,rfl⟩:=h;obtain⟨rfl,hle⟩:=pU hl;have hv:=uU hcs hle;refine⟨_,?_,.mkAgg hv⟩;have hlen:((C.toList.drop (p.o+off)).take n).length=n:=by rw[←hv.1];simp;omega
  simp only[Result.andThen_ok,if_true,Sem.run_bind,dL (w:=w) (show aO P (Go.sizeOf t)=some n by rw[aR];exact hn),aGr hC hlen,Sem.run_pure]
 ·rename_i hag;rw[dL (by rw[kX];exact hag)]
  obtain⟨u,hu,hr⟩:=hcs _ _ h;refine⟨u,?_,hr⟩;simp[wI hC,hu]
theorem rowZ_ok(S:Sim w0 P μ σ w)(id:Nat)(p:Place)(z:Nat)(hp:μ id=some p)(h:aAF σ id z=true):p.z=z:=by
 unfold aAF at h;split at h
 ·rename_i cs m hrow;obtain⟨hg,hgood⟩:=St.row_some hrow;rw[cJ,djE]at h;rw[←h];exact(S.row id p cs m hp hg hgood).z
 ·cases h
def FR(μ:Mp):Option (Nat×Value)→Option (Nat×Value)→Prop
 |none,none=>True
 |some (i,v),some (j,u)=>i=j∧VR μ v u
 |_,_=>False
theorem aread_ok{ρ ρ':Operand→Value}{o:Oper}{v:Value}(S:Sim w0 P μ σ w)(hρ: ∀x∈o.op.operands,VR μ (ρ x) (ρ' x))(h:gO P σ ρ o=some v):
    ∃v',(execOp ρ' o).run P w= .ok (.value v') w∧VR μ v v':=by
 unfold gO at h;unfold execOp;cases ho:o.op<;>simp only[ho]at h hρ⊢ <;>try cases h
 case load t a=>
  obtain⟨v',h1,h2⟩:=pX S (hρ a (by simp[Op.operands])) h
  exact⟨v',by simp[h1],h2⟩
 case slice t x lo hi mx=>
  obtain⟨v',h1,h2⟩:=aIo (μ:=μ) (P:=P) (rowZ_ok S) (hρ x (by simp[Op.operands])) (aJr lo fun y hy=>hρ y (by simp[Op.operands,hy])) (aJr hi fun y hy=>hρ y (by simp[Op.operands,hy]))
   (aJr mx fun y hy=>hρ y (by simp[Op.operands,hy])) h
  exact⟨v',by simp[dL h1],h2⟩
theorem uC: ∀(l:List Value) (ns:List Int),bytesOf l=some ns→l=ns.map (Value.int .u8):=by
 intro l;induction l with
 |nil=>intro ns h;simp only[bytesOf,ojE]at h;subst h;rfl
 |cons x l ih=>
  intro ns h;unfold bytesOf at h;split at h
  ·cases ‹_::_=[]›
  ·rename_i n r e;cases e;rw[mjE]at h;obtain⟨ns',h1,rfl⟩:=h;rw[ih ns' h1];rfl
  ·cases h
theorem wJ{l:List Value}{ns:List Int}(h:bytesOf l=some ns):l.all aB=true:=by
 rw[uC l ns h,List.all_eq_true];intro x hx;obtain⟨n,_,rfl⟩:=List.mem_map.1 hx;rfl
theorem aIv{s d:TypeId}{a b v:Value}(S:Sim w0 P μ σ w)(r:VR μ a b)(h:mP P σ s d a=some v):(convert s d b).run P w= .ok v w:=by
 unfold mP at h;split at h<;>try cases h
 rename_i e hs hd;split at h<;>try cases h
 rename_i he;split at h<;>try cases h
 ·rename_i id off n c;obtain⟨p,cap,hp,rfl,_⟩:=r.slc_inv;split at h<;>try cases h
  rename_i cs m hrow;split at h<;>try cases h
  rename_i l hl;rw[mjE]at h;obtain⟨ns,hns,rfl⟩:=h;obtain⟨hg,hgood⟩:=St.row_some hrow;obtain⟨C,ty,fr,hC,hcs,_⟩:=(S.row id p cs m hp hg hgood).row;obtain⟨rfl,hle⟩:=pU hl;have hv:=uU hcs hle;have hlen:((C.toList.drop (p.o+off)).take n).length=n:=by rw[←hv.1];simp;omega
  have heq:=hv.eq0 (wJ hns);rw[run_convert_bytes_string w s d e _ _ _ hs he hd];refine run_bytesToString w _ n cap ns ?_;rw[aGr hC hlen,heq,uC _ _ hns]
 ·cases r with
  |same _ hp=>simp[aB]at hp
  |emp a' s' cap h'=>
   rw[run_convert_bytes_string w s d e _ _ _ hs he hd];exact run_bytesToString w a' 0 cap [] rfl
end
end Go.AI
namespace Go.AI
section
variable{w0:W0}{P:Program}{μ:Mp}{σ:St}{w:World}
def upd(μ:Mp)(id:Nat)(p:Place):Mp:=fun k=>if k=id then some p else μ k
theorem fC(μ:Mp)(id:Nat)(p:Place):upd μ id p id=some p:=by simp[upd]
theorem eU{μ:Mp}{id k:Nat}{p:Place}(h:k≠id):upd μ id p k=μ k:=by simp[upd,h]
theorem KeptO.upd{w0:W0}{μ:Mp}{w:World}(K:KeptO w0 μ w){id:Nat}{q:Place}(h: ∀k o,w0.O k=some o→q.b≠k)(hb:q.b<w.heap.size):KeptO w0 (upd μ id q) w:=
 ⟨K.toKept,fun k o hk=>⟨(K.oth k o hk).1,fun j r hj=>by
  by_cases e:j=id
  ·subst e;rw[fC]at hj;cases hj;exact h k o hk
  ·rw[eU e]at hj;exact(K.oth k o hk).2 j r hj⟩,fun j r hj=>by
  by_cases e:j=id
  ·subst e;rw[fC]at hj;cases hj;exact hb
  ·rw[eU e]at hj;exact K.bnd j r hj⟩
theorem fZ{μ:Mp}{id:Nat}(p:Place)(h:μ id=none): ∀k q,μ k=some q→upd μ id p k=some q:=by
 intro k q hk;rw[eU];exact hk;intro e;subst e;rw[h]at hk;cases hk
theorem Sim.lt(S:Sim w0 P μ σ w){id:Nat}{p:Place}{cs:List Value}{m:Mta}(hp:μ id=some p)(hg:σ.get id=some (.cells cs m))(hm:σ.good m=true):p.b<w.heap.size:=by
 obtain⟨C,t,fr,hC,_⟩:=(S.row id p cs m hp hg hm).row;exact(Array.getElem?_eq_some_iff.1 hC).1
theorem Sim.lt_map(S:Sim w0 P μ σ w){id:Nat}{p:Place}{es:List (Value×Value)}(hp:μ id=some p)(hg:σ.get id=some (.map es)):p.b<w.heap.size:=by
 obtain⟨C,t,hC,_⟩:=(S.map id p es hp hg).map;exact(Array.getElem?_eq_some_iff.1 hC).1
theorem Sim.put_new(S:Sim w0 P μ σ w){id:Nat}{ob:AObj}(h:μ id=none)(hv: ∀cs m g v,ob= .cells cs m→m.grp=some (g,v)→v≤σ.ver g):Sim w0 P μ (σ.put id ob) w:=by
 have hne: ∀{k p},μ k=some p→k≠id:=by intro k p hk e;subst e;rw[h]at hk;cases hk
 have hget: ∀{k p},μ k=some p→(σ.put id ob).get k=σ.get k:=by intro k p hk;rw[St.get_put,if_neg (hne hk)]
 refine⟨S.kept,S.dom,S.glob,?_,?_,?_,?_,?_,?_,?_⟩
 ·intro k p cs m hp hg hm;rw[hget hp]at hg;exact S.row k p cs m hp hg hm
 ·intro k p es hp hg;rw[hget hp]at hg;exact S.map k p es hp hg
 ·intro i j p q cs ds m n hij hp hq hg hg' hm hn hw hs;rw[hget hp]at hg;rw[hget hq]at hg';exact S.off i j p q cs ds m n hij hp hq hg hg' hm hn hw hs
 ·intro i j p q cs ds m n hij hp hq hg hg' hm hn hw;rw[hget hp]at hg;rw[hget hq]at hg';exact S.tip i j p q cs ds m n hij hp hq hg hg' hm hn hw
 ·intro i j p q es fs hij hp hq hg hg';rw[hget hp]at hg;rw[hget hq]at hg';exact S.maps i j p q es fs hij hp hq hg hg'
 ·intro k cs m g v hg hgr;rw[St.get_put]at hg;split at hg
  ·cases hg;exact hv cs m g v rfl hgr
  ·exact S.vers k cs m g v hg hgr
 ·intro i j p q cs ds m n hij hp hq hg hg' hm hn hw;rw[hget hp]at hg;rw[hget hq]at hg';exact S.lim i j p q cs ds m n hij hp hq hg hg' hm hn hw
theorem Sim.next(S:Sim w0 P μ σ w){n:Nat}(h:σ.next≤n):Sim w0 P μ {σ with next:=n} w:=
 ⟨S.kept,fun id hi=>S.dom id (Nat.le_trans h hi),S.glob,S.row,S.map,S.off,S.tip,S.maps,S.vers,S.lim⟩
theorem Sim.drawn(S:Sim w0 P μ σ w)(n:Nat):Sim w0 P μ σ {w with drawn:=n}:=
 ⟨⟨⟨S.kept.os,S.kept.output,S.kept.size,S.kept.old⟩,S.kept.oth,S.kept.bnd⟩,S.dom,S.glob,fun id p cs m hp hg hm=>by
      obtain⟨h1,h2,h3,h4,h5⟩:=S.row id p cs m hp hg hm;exact⟨h1,h2,h3,h4,h5⟩,
  fun id p es hp hg=>by obtain⟨h1,h2⟩:=S.map id p es hp hg;exact⟨h1,h2⟩,S.off,S.tip,S.maps,S.vers,S.lim⟩
def NewAt(μ:Mp)(p:Place)(O:Obj):AObj→Prop
 | .cells cs m=> ∃C t,O= .cells C t (0,0)∧(∀(i:Nat) (v:Value),cs[i]?=some v→∃u,C[i]?=some u∧VR μ v u)∧(m.tip=true→cs.length≤p.e∧p.e≤C.size)∧p.z=m.z
 | .map es=>O= .map #[] 0∧es=[]
theorem mA{w:World}{O:Obj}{k:Nat}(h:k<w.heap.size):(w.heap.push O)[k]?=w.heap[k]?:=by
 rw[Array.getElem?_push,if_neg (by omega)]
theorem uZ(w:World)(O:Obj):(w.heap.push O)[w.heap.size]?=some O:=by simp
theorem Sim.alloc(S:Sim w0 P μ σ w){id:Nat}{ob:AObj}{O:Obj}{p:Place}(h:μ id=none)(hid:id<σ.next)(hob:σ.get id=some ob)(N:NewAt μ p O ob)(hb:p.b=w.heap.size)(ho:p.o=0):
    Sim w0 P (upd μ id p) σ {w with heap:=w.heap.push O}:=by
 have hext:=fZ p h;have hsplit: ∀{k q},upd μ id p k=some q→(k=id∧q=p)∨(k≠id∧μ k=some q):=by
  intro k q hk;by_cases e:k=id
  ·subst e;rw[fC]at hk;cases hk;exact .inl ⟨rfl,rfl⟩
  ·rw[eU e]at hk;exact .inr ⟨e,hk⟩
 have hfar: ∀{k q cs m},μ k=some q→σ.get k=some (.cells cs m)→σ.good m=true→p.b≠q.b:=by
  intro k q cs m hq hg hm;have:=S.lt hq hg hm;omega
 refine⟨⟨⟨S.kept.os,S.kept.output,?_,?_⟩,fun k o hk=>⟨(mA (Array.getElem?_eq_some_iff.1 (S.kept.oth k o hk).1).1).trans (S.kept.oth k o hk).1,fun j q hj=>by
  have h1:=(Array.getElem?_eq_some_iff.1 (S.kept.oth k o hk).1).1;rcases hsplit hj with⟨rfl,rfl⟩|⟨_,hq⟩
  ·omega
  ·exact(S.kept.oth k o hk).2 j q hq⟩,fun j q hj=>by
  show _<(w.heap.push O).size;rw[Array.size_push];rcases hsplit hj with⟨rfl,rfl⟩|⟨_,hq⟩
  ·omega
  ·have:=S.kept.bnd j q hq;omega⟩,?_,?_,?_,?_,?_,?_,?_,S.vers,?_⟩
 ·have:=S.kept.size;simp;omega
 ·intro k hk;have:=S.kept.size;show(w.heap.push O)[k]?=_;rw[mA (by omega)];exact S.kept.old k hk
 ·intro k hk;rw[eU (by omega)];exact S.dom k hk
 ·intro g hg;obtain⟨q,hq,h1,h2⟩:=S.glob g hg;exact⟨q,hext g q hq,h1,h2⟩
 ·intro k q cs m hq hg hm;rcases hsplit hq with⟨rfl,rfl⟩|⟨hk,hq'⟩
  ·rw[hob]at hg;cases hg;obtain⟨C,t,rfl,hcs,htip,hz⟩:=N;refine⟨⟨C,t,(0,0),by rw[hb];exact uZ w _,fun i v hi=>?_,fun ht=>(htip ht).2⟩,fun _=>by have:=S.kept.size;omega,fun ht=>by rw[ho];have:=(htip ht).1;omega,hz,fun _ C1 t1 fr1 e1=>by rw[hb]at e1;have:=(uZ w _).symm.trans e1;cases this;rfl⟩
   obtain⟨u,hu,hr⟩:=hcs i v hi;exact⟨u,by rw[ho,Nat.zero_add];exact hu,hr.mono' hext⟩
  ·obtain⟨⟨C,t,fr,hC,hcs,htip⟩,h2,h3,h4,h5⟩:=S.row k q cs m hq' hg hm;exact⟨⟨C,t,fr,(mA (S.lt hq' hg hm)).trans hC,fun i v hi=>let ⟨u,hu,hr⟩:=hcs i v hi;⟨u,hu,hr.mono' hext⟩,htip⟩,h2,h3,h4,fun hw C1 t1 fr1 e1=>h5 hw C1 t1 fr1 ((mA (S.lt hq' hg hm)).symm.trans e1)⟩
 ·intro k q es hq hg;rcases hsplit hq with⟨rfl,rfl⟩|⟨hk,hq'⟩
  ·rw[hob]at hg;cases hg;obtain⟨rfl,rfl⟩:=N;exact⟨⟨#[],0,by rw[hb];exact uZ w _,.nil,.nil⟩,by have:=S.kept.size;omega⟩
  ·obtain⟨⟨ES,c,hC,h1,h2⟩,h3⟩:=S.map k q es hq' hg;exact⟨⟨ES,c,(mA (S.lt_map hq' hg)).trans hC,h1.mono' hext,h2.mono' hext⟩,h3⟩
 ·intro i j a b cs ds m n hij ha hb' hg hg' hm hn hw hs;rcases hsplit ha with⟨rfl,rfl⟩|⟨hi,ha'⟩
  ·rcases hsplit hb' with⟨rfl,rfl⟩|⟨hj,hb''⟩
   ·exact absurd rfl hij
   ·exact fun e=>absurd e (hfar hb'' hg' hn)
  ·rcases hsplit hb' with⟨rfl,rfl⟩|⟨hj,hb''⟩
   ·exact fun e=>absurd e.symm (hfar ha' hg hm)
   ·exact S.off i j a b cs ds m n hij ha' hb'' hg hg' hm hn hw hs
 ·intro i j a b cs ds m n hij ha hb' hg hg' hm hn hw;rcases hsplit ha with⟨rfl,rfl⟩|⟨hi,ha'⟩
  ·rcases hsplit hb' with⟨rfl,rfl⟩|⟨hj,hb''⟩
   ·exact absurd rfl hij
   ·exact⟨fun e=>absurd e (hfar hb'' hg' hn),fun _ e=>absurd e (hfar hb'' hg' hn)⟩
  ·rcases hsplit hb' with⟨rfl,rfl⟩|⟨hj,hb''⟩
   ·exact⟨fun e=>absurd e.symm (hfar ha' hg hm),fun _ e=>absurd e.symm (hfar ha' hg hm)⟩
   ·exact S.tip i j a b cs ds m n hij ha' hb'' hg hg' hm hn hw
 ·intro i j a b es fs hij ha hb' hg hg';rcases hsplit ha with⟨rfl,rfl⟩|⟨hi,ha'⟩
  ·rcases hsplit hb' with⟨rfl,rfl⟩|⟨hj,hb''⟩
   ·exact absurd rfl hij
   ·have:=S.lt_map hb'' hg';omega
  ·rcases hsplit hb' with⟨rfl,rfl⟩|⟨hj,hb''⟩
   ·have:=S.lt_map ha' hg;omega
   ·exact S.maps i j a b es fs hij ha' hb'' hg hg'
 ·intro i j a b cs ds m n hij ha hb' hg hg' hm hn hw;rcases hsplit ha with⟨rfl,rfl⟩|⟨hi,ha'⟩
  ·rcases hsplit hb' with⟨rfl,rfl⟩|⟨hj,hb''⟩
   ·exact absurd rfl hij
   ·exact fun e=>absurd e (hfar hb'' hg' hn)
  ·rcases hsplit hb' with⟨rfl,rfl⟩|⟨hj,hb''⟩
   ·exact fun e=>absurd e.symm (hfar ha' hg hm)
   ·exact S.lim i j a b cs ds m n hij ha' hb'' hg hg' hm hn hw
theorem VRL.at{xs us:List Value}(r:VRL μ xs us): ∀(i:Nat) (v:Value),xs[i]?=some v→∃u,us.toArray[i]?=some u∧VR μ v u:=by
 intro i v h;obtain⟨u,hu,hr⟩:=r.get h;exact⟨u,by simpa using hu,hr⟩
theorem VRL.atA{xs:List Value}{us:Array Value}(r:VRL μ xs us.toList): ∀(i:Nat) (v:Value),xs[i]?=some v→∃u,us[i]?=some u∧VR μ v u:=by
 intro i v h;obtain⟨u,hu,hr⟩:=r.get h;exact⟨u,by simpa using hu,hr⟩
theorem kN(z:List Value)(n:Nat):(bI z n).length=n*z.length:=by
 induction n with
 |zero=>simp[bI]
 |succ n ih=>simp[bI,ih,Nat.succ_mul,Nat.add_comm]
theorem gT(z:List Value)(hz:0<z.length): ∀(n i:Nat),(bI z n)[i]?=if i<n*z.length then z[i%z.length]? else none:=by
 intro n;induction n with
 |zero=>intro i;simp[bI]
 |succ n ih=>
  intro i;simp only[bI,List.getElem?_append];split
  ·rename_i h;rw[if_pos (by rw[Nat.succ_mul];omega),Nat.mod_eq_of_lt h]
  ·rename_i h;rw[ih,Nat.succ_mul];have:(i-z.length)%z.length=i%z.length:=by
    conv=>rhs;rw[show i=(i-z.length)+z.length from by omega]
    rw[Nat.add_mod_right]
   rw[this];by_cases h':i-z.length<n*z.length
   ·rw[if_pos h',if_pos (by omega)]
   ·rw[if_neg h',if_neg (by omega)]
theorem aCE(z:Array Value)(n s:Nat)(hz:z.size=s)(hs:1≤s):(Array.map (fun x=>z[x%z.size]!) (Array.range (n*s)))=(bI z.toList n).toArray:=by
 apply Array.ext';apply List.ext_getElem?;intro i;rw[gT z.toList (by simp;omega)]
 simp only[Array.toList_map,Array.toList_range,List.getElem?_map,Array.length_toList,hz];by_cases h:i<n*s
 ·rw[if_pos h,List.getElem?_range h];have h2:i%s<z.size:=by rw[hz];exact Nat.mod_lt _ (by omega)
  simp[h2]
 ·rw[if_neg h];simp;omega
theorem lQ{z:List Value}(h:z.all aB=true)(n:Nat):(bI z n).all aB=true:=by
 induction n with
 |zero=>rfl
 |succ n ih=>simp only[bI,List.all_append,bjE];exact⟨h,ih⟩
theorem aIx{ρ ρ':Operand→Value}{o:Oper}{id:Nat}{v:Value}{ob:AObj}(w:World)(hρ: ∀x∈o.op.operands,VR μ (ρ x) (ρ' x))(h:eA P ρ o id=some (v,ob)):
    ∃v' O p,(execOp ρ' o).run P w= .ok (.value v') {w with heap:=w.heap.push O}∧p.b=w.heap.size∧p.o=0∧NewAt μ p O ob∧(∀μ':Mp,μ' id=some p→VR μ' v v'):=by
 unfold eA at h;unfold execOp;cases ho:o.op<;>simp only[ho]at h hρ⊢ <;>try cases h
 case alloc t=>
  split at h<;>try cases h
  rename_i z hz;cases hp:z.cells.toList.all aB with
  |false=>rw[hp]at h;cases h
  |true=>
   rw[hp]at h;simp only[cdt,ojE,pjE]at h;obtain⟨rfl,rfl⟩:=h;refine⟨.pointer (some ⟨w.heap.size,0,none⟩),.cells z.cells t (0,0),⟨w.heap.size,0,0,0⟩,?_,rfl,rfl,⟨z.cells,t,rfl,VRL.atA (.same hp),(fun h=>by cases h),rfl⟩,fun μ' hμ=>VR.ptr id 0 _ hμ⟩
   simp[Instr.alloc,dL hz,newVar,newRow]
 case box t x=>
  have hx:=hρ x (by simp[Op.operands])
  cases hp:(ρ x).cells.toList.all one with
  |false=>rw[hp]at h;cases h
  |true=>
   rw[hp]at h;simp only[cdt,ojE,pjE]at h;obtain⟨rfl,rfl⟩:=h;refine⟨.pointer (some ⟨w.heap.size,0,none⟩),.cells (ρ' x).cells t (0,0),⟨w.heap.size,0,0,0⟩,?_,rfl,rfl,⟨_,t,rfl,VRL.atA hx.cells,(fun h=>by cases h),rfl⟩,fun μ' hμ=>VR.ptr id 0 _ hμ⟩
   simp[Instr.box,newVar,newRow]
 case buildSlice t len parts=>
  split at h<;>try cases h
  rename_i e hu;split at h<;>try cases h
  rename_i s hs;split at h<;>try cases h
  rename_i z hz;cases hp:(z.cells.toList.all aB&&Nat.ble (len*s) 1000000&&Nat.beq z.cells.size s&&Nat.ble 1 s)with
  |false=>rw[hp]at h;cases h
  |true=>
   rw[hp]at h;simp only[bjE,aFg,cJ,djE]at hp;obtain⟨⟨⟨hp,hle⟩,hzs⟩,hs1⟩:=hp;simp only[cdt,mjE,pjE]at h;obtain⟨cs,hf,rfl,rfl⟩:=h;have hPR:PR μ (parts.map fun(i,x)=>(i,ρ x)).toList (parts.map fun(i,x)=>(i,ρ' x)).toList:=by
    simpa using PR_map parts.toList (fun x hx=>hρ x.2 (by simp[Op.operands];exact⟨_,Array.mem_toList_iff.1 hx⟩))
   have hz0:=lQ hp len;obtain⟨cs',hf',hr⟩:=aBm (μ:=μ) _ _ _ _ _ _ hPR (VRL.toArray_cells (.same hz0)) hf;refine⟨.slice (some ⟨w.heap.size,0,none⟩) len len,.cells cs' e (0,0),⟨w.heap.size,0,len*s,s⟩,?_,rfl,rfl,⟨cs',e,rfl,VRL.atA hr,(fun h=>by cases h),rfl⟩,
    fun μ' hμ=>VR.slc id 0 len len len _ hμ (fun _=>rfl) (nlR _) (by simp)⟩
   unfold Instr.buildSlice;have hbig: ¬(len*s>2^24):=by omega
   simp only[Sem.run_bind,dL (w:=w) (show aO P (underlying t)=some (.slice e) by rw[aD];exact hu),Result.andThen_ok,
    dL (w:=w) (show aO P (Go.sizeOf e)=some s by rw[aR];exact hs),if_neg hbig]
   by_cases h0:len*s=0
   ·rw[if_pos h0];have hl0:len=0:=by
     rcases Nat.mul_eq_zero.1 h0 with h|h
     ·exact h
     ·omega
    subst hl0;simp only[bI]at hf';simp only[Sem.run_bind,Sem.run_pure,Result.andThen_ok,Nat.zero_mul,Array.range_zero',Array.map_empty];have hf'':Instr.fill (fun i=>some (i*s,s)) #[] (parts.map fun(i,x)=>(i,ρ' x)).toList=some cs':=hf'
    rw[hf''];simp[newRow]
   ·rw[if_neg h0];simp only[Sem.run_bind,dL (w:=w) hz,Sem.run_pure,Result.andThen_ok,aCE z.cells len s hzs hs1];have hf'':Instr.fill (fun i=>some (i*s,s)) (bI z.cells.toList len).toArray (parts.map fun(i,x)=>(i,ρ' x)).toList=some cs':=hf'
    rw[hf''];simp[newRow]
 case makeSlice t l c=>
  have hl:=hρ l (by simp[Op.operands])
  have hc:=hρ c (by simp[Op.operands])
  split at h<;>try cases h
  rename_i e n k hu hl' hc';rw[hl']at hl;rw[hc']at hc;rw[hl.int_inv,hc.int_inv];split at h<;>try cases h
  rename_i info hi;split at h<;>try cases h
  rename_i z hz;cases hp:(decide (0≤n)&&decide (n≤k)&&decide (k*(info.bytes:Int)≤1073741824)&&decide (k≤1073741824)&&z.cells.toList.all aB&&Nat.beq z.cells.size info.size&&Nat.ble 1 info.size)with
  |false=>rw[hp]at h;cases h
  |true=>
   rw[hp]at h;simp only[bjE,aFg,cJ,djE]at hp;obtain⟨⟨⟨⟨⟨⟨h0,hnk⟩,hkb⟩,hk⟩,hpz⟩,hzs⟩,hs1⟩:=hp;have hrun:=run_make (P:=P) w t e info z hu hi hz .i64 .i64 n k h0 hnk (by rw[Int.mul_comm];omega) (by omega)
   have hmade:madeCells z.cells (k.toNat*info.size)=(bI z.cells.toList k.toNat).toArray:=by
    unfold madeCells;exact aCE z.cells k.toNat info.size hzs hs1
   have hzl:z.cells.toList.length=info.size:=by simpa using hzs
   simp only[cdt]at h;cases hnk':decide (n=k)with
   |true=>
    rw[hnk']at h;simp only[cdt,ojE,pjE]at h;obtain⟨rfl,rfl⟩:=h;have:n=k:=by simpa using hnk'
    subst this;refine⟨.slice (some ⟨w.heap.size,0,none⟩) n.toNat n.toNat,.cells (bI z.cells.toList n.toNat).toArray e (0,0),⟨w.heap.size,0,n.toNat*info.size,info.size⟩,?_,rfl,rfl,
     ⟨_,e,rfl,VRL.at (.same (lQ hpz _)),(fun h=>by cases h),rfl⟩,fun μ' hμ=>VR.slc id 0 _ _ _ _ hμ (fun _=>rfl) (nlR _) (by simp)⟩
    simp only[Sem.run_bind,hrun,hmade,Result.andThen_ok,Sem.run_pure];rfl
   |false=>
    rw[hnk']at h;simp only[cdf,ojE,pjE]at h;obtain⟨rfl,rfl⟩:=h;refine⟨.slice (some ⟨w.heap.size,0,none⟩) n.toNat k.toNat,.cells (bI z.cells.toList k.toNat).toArray e (0,0),⟨w.heap.size,0,k.toNat*info.size,info.size⟩,?_,rfl,rfl,
     ⟨_,e,rfl,?_,(fun _=>?_),rfl⟩,fun μ' hμ=>VR.slc id 0 _ _ _ _ hμ (fun e=>by omega) (by omega) (by simp)⟩
    ·simp only[Sem.run_bind,hrun,hmade,Result.andThen_ok,Sem.run_pure];rfl
    ·intro i v hv;have hlt:i<n.toNat*z.cells.toList.length:=by
      rw[gT _ (by omega)]at hv
      split at hv
      ·assumption
      ·cases hv
     rw[gT _ (by omega),if_pos hlt]at hv
     have hlt':i<k.toNat*z.cells.toList.length:=Nat.lt_of_lt_of_le hlt (Nat.mul_le_mul_right _ (by omega))
     have hpl:aB v=true:=List.all_eq_true.1 hpz v (List.mem_of_getElem? hv);refine⟨v,?_,.same v hpl⟩;have:(bI z.cells.toList k.toNat)[i]?=some v:=by rw[gT _ (by omega),if_pos hlt'];exact hv
     simpa using this
    ·constructor
     ·show(bI z.cells.toList n.toNat).length≤k.toNat*info.size;rw[kN,hzl];exact Nat.mul_le_mul_right _ (by omega)
     ·show k.toNat*info.size≤(bI z.cells.toList k.toNat).toArray.size;simp[kN,hzs]
end
end Go.AI
namespace Go.AI
section
variable{w0:W0}{P:Program}{μ:Mp}{σ:St}{w:World}
theorem oR: ∀(xs cs:List Value) (off:Nat),(eZ cs off xs).length=cs.length
 |[],_,_=>rfl
 |x::xs,cs,off=>by rw[eZ,oR xs];simp
theorem aGM: ∀(xs cs:List Value) (off i:Nat),off+xs.length≤cs.length→(eZ cs off xs)[i]?=if off≤i∧i<off+xs.length then xs[i-off]? else cs[i]?:=by
 intro xs;induction xs with
 |nil=>intro cs off i _;rw[eZ,if_neg (by simp)]
 |cons x xs ih=>
  intro cs off i h;simp only[lcS]at h;rw[eZ,ih _ _ _ (by simp;omega)]
  by_cases h1:off+1≤i∧i<off+1+xs.length
  ·rw[if_pos h1,if_pos (by simp;omega)]
   rw[show i-off=(i-(off+1))+1 by omega];simp
  ·rw[if_neg h1];by_cases h2:i=off
   ·subst h2;rw[if_pos (by simp),List.getElem?_set_self (by omega)];simp
   ·rw[if_neg (by simp;omega),List.getElem?_set_ne (by omega)]
theorem aGp(l us:List Value)(a k:Nat)(h:a+us.length≤l.length):
    (l.take a++us++l.drop (a+us.length))[k]?=if a≤k∧k<a+us.length then us[k-a]? else l[k]?:=by
 have hl:(l.take a).length=a:=by simp;omega
 rw[apA,List.getElem?_append];split
 ·rename_i h1;rw[hl]at h1;rw[if_neg (by omega),List.getElem?_take,if_pos h1]
 ·rename_i h1;rw[hl]at h1⊢;rw[List.getElem?_append];split
  ·rename_i h2;rw[if_pos (by omega)]
  ·rename_i h2;rw[if_neg (by omega),List.getElem?_drop]
   congr 1;omega
theorem sS(l us:List Value)(a:Nat)(h:a+us.length≤l.length):(l.take a++us++l.drop (a+us.length)).length=l.length:=by simp;omega
theorem RowAt.other{q:Place}{ds:List Value}{n:Mta}(R:RowAt w0 μ w q ds n){b:Nat}{C C':Array Value}{t:TypeId}(hC:w.heap[b]?=some (.cells C t (0,0)))(hsz:C'.size=C.size)
    (h:q.b=b→∀i,i<ds.length→C'[q.o+i]?=C[q.o+i]?):RowAt w0 μ (w.setRow b C') q ds n:=by
 obtain⟨⟨D,u,fr,hD,hds,htip⟩,h2,h3,h4,h5⟩:=R;refine⟨?_,h2,h3,h4,fun hw C1 t1 fr1 e1=>?_⟩
 rotate_left
 ·by_cases hb:q.b=b
  ·rw[hb,setRow_heap w b C C' _ _ hC]at e1;cases e1;rfl
  ·rw[setRow_other _ _ _ _ hb]at e1;exact h5 hw _ _ _ e1
 by_cases hb:q.b=b
 ·rw[hb,hC]at hD;cases hD;refine⟨C',_,_,by rw[hb];exact setRow_heap w b C C' _ _ hC,fun i v hi=>?_,fun ht=>by rw[hsz];exact htip ht⟩
  obtain⟨u,hu,hr⟩:=hds i v hi;have hlt:i<ds.length:=by
   rcases Nat.lt_or_ge i ds.length with h'|h'
   ·exact h'
   ·rw[List.getElem?_eq_none h']at hi;cases hi
  exact⟨u,by rw[h hb i hlt];exact hu,hr⟩
 ·exact⟨D,u,fr,by rw[setRow_other _ _ _ _ hb];exact hD,hds,htip⟩
theorem MapAt.other{q:Place}{es:List (Value×Value)}(R:MapAt w0 μ w q es){b:Nat}{C C':Array Value}{t:TypeId}(hC:w.heap[b]?=some (.cells C t (0,0))):MapAt w0 μ (w.setRow b C') q es:=by
 obtain⟨⟨ES,c,h,h1,h2⟩,h3⟩:=R;have hb:q.b≠b:=by intro e;rw[e,hC]at h;cases h
 exact⟨⟨ES,c,by rw[setRow_other _ _ _ _ hb];exact h,h1,h2⟩,h3⟩
theorem KeptO.setRow(K:KeptO w0 μ w){b:Nat}(hb:w0.heap.size≤b)(hbo: ∀k o,w0.O k=some o→b≠k)(C':Array Value):KeptO w0 μ (w.setRow b C'):=by
 refine⟨⟨K.os,K.output,by rw[setRow_size];exact K.size,fun k hk=>by rw[setRow_other _ _ _ _ (by omega)];exact K.old k hk⟩,fun k o hk=>?_,fun id p h=>by rw[setRow_size];exact K.bnd id p h⟩
 ·exact⟨by rw[setRow_other _ _ _ _ (Ne.symm (hbo k o hk))];exact(K.oth k o hk).1,(K.oth k o hk).2⟩
theorem Sim.write(S:Sim w0 P μ σ w){id:Nat}{p:Place}{cs:List Value}{m m':Mta}{σ':St}{C:Array Value}{t:TypeId}(hp:μ id=some p)(hg:σ.get id=some (.cells cs m))(hgood:σ.good m=true)
    (hwr:m.wr=true) (hC:w.heap[p.b]?=some (.cells C t (0,0))) {off:Nat} {xs us:List Value} (hxs:VRL μ xs us) (hlen:off+xs.length≤cs.length)
    (hnext:σ'.next=σ.next) (hid:σ'.get id=some (.cells (eZ cs off xs) m')) (hne: ∀k,k≠id→σ'.get k=σ.get k)
    (hm':m'.wr=m.wr∧m'.tip=m.tip∧m'.z=m.z∧(∀n,eN m' n↔eN m n)∧(∀n,eN n m'↔eN n m)) (hml:m'.lim=m.lim)
    (hgd: ∀k ds n,k≠id→σ.get k=some (.cells ds n)→σ'.good n=true→σ.good n=true∧(¬eN m n∨(m.tip=true∧m.lim≤off)))
    (hvers: ∀k ds n g v,σ'.get k=some (.cells ds n)→n.grp=some (g,v)→v≤σ'.ver g):
    Sim w0 P μ σ' (w.setRow p.b (C.toList.take (p.o+off)++us++C.toList.drop (p.o+off+us.length)).toArray):=by
 have R:=S.row id p cs m hp hg hgood;have hin:xs.length=0∨p.o+off+us.length≤C.toList.length:=by
  rcases Nat.eq_zero_or_pos xs.length with h|h
  ·exact .inl h
  ·right;obtain⟨D,u,fr,hD,hds,_⟩:=R.row;rw[hC]at hD;cases hD;have:off+xs.length-1<cs.length:=by omega
   obtain⟨x,hx,_⟩:=hds _ _ (geG this);have:=(Array.getElem?_eq_some_iff.1 hx).1;rw[←hxs.1];simp;omega
 generalize hC':(C.toList.take (p.o+off)++us++C.toList.drop (p.o+off+us.length)).toArray=C';have hget: ∀k,C'[k]?=if p.o+off≤k∧k<p.o+off+us.length then us[k-(p.o+off)]? else C[k]?:=by
  intro k;rw[←hC'];rcases hin with h|h
  ·have hu:us=[]:=by have:=hxs.1;rw[h]at this;exact List.eq_nil_of_length_eq_zero this.symm
   subst hu;rw[if_neg (by simp)]
   simp
  ·have:=aGp C.toList us (p.o+off) k h;simpa using this
 have hsz:C'.size=C.size:=by
  rw[←hC'];rcases hin with h|h
  ·have hu:us=[]:=by have:=hxs.1;rw[h]at this;exact List.eq_nil_of_length_eq_zero this.symm
   subst hu;simp
  ·have:=sS C.toList us (p.o+off) h;simpa using this
 have hlp:(eZ cs off xs).length=cs.length:=oR _ _ _;have Rid:RowAt w0 μ (w.setRow p.b C') p (eZ cs off xs) m':=by
  obtain⟨⟨D,u,fr,hD,hds,htip⟩,h2,h3,h4,h5⟩:=R;rw[hC]at hD;cases hD;refine⟨⟨C',_,_,setRow_heap w p.b C C' _ _ hC,fun i v hi=>?_,fun ht=>?_⟩,fun h=>h2 (hm'.1▸h),fun h=>by rw[hlp];exact h3 (hm'.2.1▸h),by rw[hm'.2.2.1];exact h4,fun _ C1 t1 fr1 e1=>by rw[setRow_heap w p.b C C' _ _ hC]at e1;cases e1;rfl⟩
  ·rw[aGM _ _ _ _ hlen]at hi;rw[hget];split at hi
   ·rename_i h1;rw[if_pos (by have:=hxs.1;omega)]
    obtain⟨u,hu,hr⟩:=hxs.get hi;exact⟨u,by rw[show p.o+i-(p.o+off)=i-off by omega];exact hu,hr⟩
   ·rename_i h1;rw[if_neg (by have:=hxs.1;omega)]
    exact hds i v hi
  ·rw[hsz];exact htip (hm'.2.1▸ht)
 have Roth: ∀k q ds n,k≠id→μ k=some q→σ.get k=some (.cells ds n)→σ.good n=true→(¬eN m n∨(m.tip=true∧m.lim≤off))→RowAt w0 μ (w.setRow p.b C') q ds n:=by
  intro k q ds n hk hq hgk hgn hs;refine(S.row k q ds n hq hgk hgn).other hC hsz (fun hb i hi=>?_)
  rw[hget,if_neg];intro h1;rcases hs with hs|⟨ht,hl⟩
  ·exact S.off id k p q cs ds m n (Ne.symm hk) hp hq hg hgk hgood hgn hwr hs hb.symm (q.o+i) (by have:=hxs.1;omega) (by have:=hxs.1;omega) (by omega) (by omega)
  ·exact S.lim id k p q cs ds m n (Ne.symm hk) hp hq hg hgk hgood hgn ht hb.symm (q.o+i) (by have:=hxs.1;omega) (by have:=hxs.1;omega) (by omega) (by omega)
 have old: ∀{k q ds n},k≠id→μ k=some q→σ'.get k=some (.cells ds n)→σ'.good n=true→σ.get k=some (.cells ds n)∧σ.good n=true∧(¬eN m n∨(m.tip=true∧m.lim≤off)):=by
  intro k q ds n hk hq hg' hgd';rw[hne k hk]at hg';obtain⟨h1,h2⟩:=hgd k ds n hk hg' hgd';exact⟨hg',h1,h2⟩
 refine⟨S.kept.setRow (R.wr hwr) (fun k o hk=>(S.kept.oth k o hk).2 id p hp) C',fun k hk=>S.dom k (hnext▸hk),S.glob,?_,?_,?_,?_,?_,hvers,?_⟩
 ·intro k q ds n hq hg' hgn;by_cases hk:k=id
  ·subst hk;rw[hp]at hq;cases hq;rw[hid]at hg';cases hg';exact Rid
  ·obtain⟨h1,h2,h3⟩:=old hk hq hg' hgn;exact Roth k q ds n hk hq h1 h2 h3
 ·intro k q es hq hg';have hk:k≠id:=by intro e;subst e;rw[hid]at hg';cases hg'
  rw[hne k hk]at hg';exact(S.map k q es hq hg').other hC
 ·intro i j a b as bs n1 n2 hij ha hb hga hgb h1 h2 hw hs;by_cases hi:i=id
  ·subst hi;rw[hp]at ha;cases ha;rw[hid]at hga;cases hga;obtain⟨g1,g2,g3⟩:=old (Ne.symm hij) hb hgb h2;rw[hlp];exact S.off i j p b cs bs m n2 hij hp hb hg g1 hgood g2 hwr (fun h=>hs ((hm'.2.2.2.1 n2).2 h))
  ·obtain⟨f1,f2,f3⟩:=old hi ha hga h1;by_cases hj:j=id
   ·subst hj;rw[hp]at hb;cases hb;rw[hid]at hgb;cases hgb;rw[hlp];exact S.off i j a p as cs n1 m hij ha hp f1 hg f2 hgood hw (fun h=>hs ((hm'.2.2.2.2 n1).2 h))
   ·obtain⟨g1,g2,g3⟩:=old hj hb hgb h2;exact S.off i j a b as bs n1 n2 hij ha hb f1 g1 f2 g2 hw hs
 ·intro i j a b as bs n1 n2 hij ha hb hga hgb h1 h2 hw;by_cases hi:i=id
  ·subst hi;rw[hp]at ha;cases ha;rw[hid]at hga;cases hga;obtain⟨g1,g2,g3⟩:=old (Ne.symm hij) hb hgb h2;rw[hlp];exact S.tip i j p b cs bs m n2 hij hp hb hg g1 hgood g2 (hm'.2.1▸hw)
  ·obtain⟨f1,f2,f3⟩:=old hi ha hga h1;by_cases hj:j=id
   ·subst hj;rw[hp]at hb;cases hb;rw[hid]at hgb;cases hgb;rw[hlp];have:=S.tip i j a p as cs n1 m hij ha hp f1 hg f2 hgood hw;exact⟨this.1,fun h=>this.2 (hm'.2.1▸h)⟩
   ·obtain⟨g1,g2,g3⟩:=old hj hb hgb h2;exact S.tip i j a b as bs n1 n2 hij ha hb f1 g1 f2 g2 hw
 ·intro i j a b es fs hij ha hb hga hgb;have hi:i≠id:=by intro e;subst e;rw[hid]at hga;cases hga
  have hj:j≠id:=by intro e;subst e;rw[hid]at hgb;cases hgb
  rw[hne i hi]at hga;rw[hne j hj]at hgb;exact S.maps i j a b es fs hij ha hb hga hgb
 ·intro i j a b as bs n1 n2 hij ha hb hga hgb h1 h2 hw;by_cases hi:i=id
  ·subst hi;rw[hp]at ha;cases ha;rw[hid]at hga;cases hga;obtain⟨g1,g2,g3⟩:=old (Ne.symm hij) hb hgb h2;rw[hlp,hml];exact S.lim i j p b cs bs m n2 hij hp hb hg g1 hgood g2 (hm'.2.1▸hw)
  ·obtain⟨f1,f2,f3⟩:=old hi ha hga h1;by_cases hj:j=id
   ·subst hj;rw[hp]at hb;cases hb;rw[hid]at hgb;cases hgb;rw[hlp];exact S.lim i j a p as cs n1 m hij ha hp f1 hg f2 hgood hw
   ·obtain⟨g1,g2,g3⟩:=old hj hb hgb h2;exact S.lim i j a b as bs n1 n2 hij ha hb f1 g1 f2 g2 hw
theorem xZ(v:Value):v.oneCell'=one v:=by cases v<;>rfl
theorem aIn{t:TypeId}{a b x y:Value}{σ':St}(S:Sim w0 P μ σ w)(ra:VR μ a b)(rx:VR μ x y)(h:iT P σ t a x=some σ'):
    ∃w',(Instr.storeAt t b y).run P w= .ok () w'∧Sim w0 P μ σ' w'∧σ'.next=σ.next:=by
 unfold iT at h;split at h<;>try cases h
 rename_i id off;obtain⟨p,hp,rfl⟩:=ra.ptr_inv;split at h<;>try cases h
 rename_i cs m n hrow hn;obtain⟨hg,hgood⟩:=St.row_some hrow;cases hc:(m.wr&&Nat.beq x.cells.size n&&Nat.ble (off+n) cs.length&&x.cells.toList.all one)with
 |false=>rw[hc]at h;cases h
 |true=>
  rw[hc]at h;simp only[bjE,aFg,cJ,djE]at hc;obtain⟨⟨⟨hwr,hsz⟩,hle⟩,hone⟩:=hc;simp only[cdt]at h;have R:=S.row id p cs m hp hg hgood;obtain⟨C,ty,fr,hC,hcs,_⟩:=R.row;have hfr:=R.fz hwr C ty fr hC;subst hfr;have hxs:=rx.cells;have hxl:x.cells.toList.length=n:=by simpa using hsz
  have hone': ∀v∈y.cells.toList,v.oneCell'=true:=by
   intro v hv;rw[xZ];have:=hxs.one_eq;rw[hone]at this;exact List.all_eq_true.1 this v hv
  have hfit:p.o+off+y.cells.toList.length≤C.size∨y.cells.toList=[]:=by
   rcases Nat.eq_zero_or_pos n with h0|h0
   ·right;apply List.eq_nil_of_length_eq_zero;rw[←hxs.1,hxl,h0]
   ·left;have:off+n-1<cs.length:=by omega
    obtain⟨u,hu,_⟩:=hcs _ _ (geG this);have:=(Array.getElem?_eq_some_iff.1 hu).1;rw[←hxs.1,hxl];omega
  have hrun:(Instr.storeAt t (.pointer (some ⟨p.b,p.o+off,none⟩)) y).run P w=
        .ok () (w.setRow p.b (C.toList.take (p.o+off)++y.cells.toList++C.toList.drop (p.o+off+y.cells.toList.length)).toArray):=by
   unfold Instr.storeAt storeVar;have hsy: ¬(y.cells.size≠n):=by have:=hxs.size;omega
   simp only[Instr.sureAddr,Sem.run_bind,Sem.run_pure,Result.andThen_ok,dL (w:=w) (show aO P (Go.sizeOf t)=some n by rw[aR];exact hn),if_neg hsy]
   rcases hfit with hf|hf
   ·have:=run_storeCells_at P p.b (p.o+off) ty y.cells.toList 0 C w hC (by simpa using hf) hone'
    simpa using this
   ·rw[hf];simp only[storeCells,apN,lnN,Nat.add_zero,List.take_append_drop,Array.toArray_toList];rw[setRow_self w p.b C ty (0,0) hC];rfl
  refine⟨_,hrun,?_⟩;cases hgr:m.grp with
  |none=>
   simp only[hgr,ojE]at h;subst h;have hns: ∀n,¬eN m n:=fun n ⟨g,v,v',e,_⟩=>by rw[hgr]at e;cases e
   refine⟨S.write hp hg hgood hwr hC hxs (by rw[hxl];exact hle) rfl (m':=m) (by rw[St.get_put,if_pos rfl]) (fun k hk=>by rw[St.get_put,if_neg hk]) ⟨rfl,rfl,rfl,fun _=>Iff.rfl,fun _=>Iff.rfl⟩ rfl
    (fun k ds n _ _ hgn=>⟨hgn,.inl (hns n)⟩) (fun k ds n g v hk hgr'=>?_),rfl⟩
   rw[St.get_put]at hk;split at hk
   ·cases hk;rw[hgr]at hgr';cases hgr'
   ·exact S.vers k ds n g v hk hgr'
  |some gv=>
   obtain⟨g,v⟩:=gv;simp only[hgr]at h;cases hlim:(m.tip&&Nat.ble m.lim off)with
   |true=>
    rw[hlim]at h;simp only[cdt,ojE]at h;subst h;simp only[bjE,aFg,djE]at hlim;refine⟨S.write hp hg hgood hwr hC hxs (by rw[hxl];exact hle) rfl (m':=m) (by rw[St.get_put,if_pos rfl]) (fun k hk=>by rw[St.get_put,if_neg hk]) ⟨rfl,rfl,rfl,fun _=>Iff.rfl,fun _=>Iff.rfl⟩ rfl
     (fun k ds n _ _ hgn=>⟨hgn,.inr hlim⟩) (fun k ds n g v hk hgr'=>?_),rfl⟩
    rw[St.get_put]at hk;split at hk
    ·cases hk;exact S.vers id _ _ g v hg hgr'
    ·exact S.vers k ds n g v hk hgr'
   |false=>
   rw[hlim]at h;simp only[cdf,ojE]at h;subst h;have hver:σ.ver g=v:=(St.good_iff σ m).1 hgood g v hgr;refine⟨S.write hp hg hgood hwr hC hxs (by rw[hxl];exact hle) rfl (m':={m with grp:=some (g,v+1)}) (by rw[St.get_bump,St.get_put,if_pos rfl]) (fun k hk=>by rw[St.get_bump,St.get_put,if_neg hk])
    ⟨rfl,rfl,rfl,fun n=>?_,fun n=>?_⟩ rfl (fun k ds n hk hgk hgn=>?_) (fun k ds n g' v' hk hgr'=>?_),rfl⟩
   ·constructor
    ·rintro⟨g1,v1,v2,e1,e2⟩;cases e1;exact⟨_,_,_,hgr,e2⟩
    ·rintro⟨g1,v1,v2,e1,e2⟩;rw[hgr]at e1;cases e1;exact⟨_,_,_,rfl,e2⟩
   ·constructor
    ·rintro⟨g1,v1,v2,e1,e2⟩;cases e2;exact⟨_,_,_,e1,hgr⟩
    ·rintro⟨g1,v1,v2,e1,e2⟩;rw[hgr]at e2;cases e2;exact⟨_,_,_,e1,rfl⟩
   ·rw[St.good_iff]at hgn;have hnot: ∀v',n.grp≠some (g,v'):=by
     intro v' e;have h1:=hgn g v' e;rw[St.ver_bump,if_pos rfl]at h1;have h2:=S.vers k ds n g v' hgk e;omega
    refine⟨(St.good_iff σ n).2 fun g' v' e=>?_,.inl ?_⟩
    ·have h1:=hgn g' v' e;rw[St.ver_bump]at h1;split at h1
     ·rename_i eg;subst eg;exact absurd e (hnot v')
     ·exact h1
    ·rintro⟨g1,v1,v2,e1,e2⟩;rw[hgr]at e1;cases e1;exact hnot v2 e2
   ·rw[St.get_bump,St.get_put]at hk;rw[St.ver_bump];split at hk
    ·cases hk;cases hgr';rw[if_pos rfl];exact nlR _
    ·have:=S.vers k ds n g' v' hk hgr';split
     ·rename_i eg;subst eg;omega
     ·exact this
theorem VRL.modify{xs us:List Value}(r:VRL μ xs us){x u:Value}(h:VR μ x u)(n:Nat):VRL μ (xs.modify n fun _=>x) (us.modify n fun _=>u):=by
 refine⟨by simp[r.1],fun i y v hy hv=>?_⟩
 rw[List.getElem?_modify]at hy hv;by_cases e:n=i
 ·subst e;simp only[if_true,Option.map_eq_map,mjE]at hy hv;obtain⟨_,_,rfl⟩:=hy;obtain⟨_,_,rfl⟩:=hv;exact h
 ·simp only[if_neg e,id_map]at hy hv;exact r.2 i y v (by simpa using hy) (by simpa using hv)
end
end Go.AI
