import Derived.Test.YtgddcoodncbkoaaGreatDoorKd
import Derived.Laws.BytesString
import Derived.Deep.Upon
set_option linter.unusedVariables false
set_option linter.unusedSimpArgs false
set_option linter.constructorNameAsVariable false
set_option linter.defProp false
namespace Go.PI
open Go.AI
structure Dp(p p':PSt):Prop where
 next:p.next<=p'.next
 dirty: ∀id,id∈p.dirty->id∈p'.dirty
 wr: ∀id,id∈p.wr->id∈p'.wr
 mem: ∀k,k<p.next->k∉p'.dirty->p'.mem.get k=p.mem.get k
def Dp.refl(p:PSt):Dp p p:=⟨nlR _,λ_ h=>h,λ_ h=>h,λ_ _ _=>rfl⟩
def Dp.trans{p p' p'':PSt}(h:Dp p p')(h':Dp p' p''):Dp p p'':=
 ⟨Nat.le_trans h.next h'.next,λid hi=>h'.dirty id (h.dirty id hi),λid hi=>h'.wr id (h.wr id hi),λk hk hd=>(h'.mem k (Nat.lt_of_lt_of_le hk h.next) hd).trans (h.mem k hk λhh=>hd (h'.dirty k hh))⟩
def iG{id:Nat}{l:List Nat}{k:Nat}:k∈ins id l↔k=id∨k∈l:=by
 unfold ins;cases h:l.contains id with
 |true=>
  simp only[cdt];constructor
  ·exact .inr
  ·rintro(rfl|h')
   ·simpa using h
   ·exact h'
 |false=>simp[cdf]
def Dp.upd(p:PSt)(id:Nat)(o:mW):Dp p (p.upd id o):=
 ⟨nlR _,λk hk=>iG.2 (.inr hk),λk hk=>iG.2 (.inr hk),λk _ hd=>by
  simp only[PSt.upd,Tr.get_set];rw[if_neg (λe=>hd (iG.2 (.inl e)))]⟩
def Dp.mark(p:PSt)(id:Nat)(o:mW):Dp p (p.mark id o):=
 ⟨nlR _,λk hk=>iG.2 (.inr hk),λk hk=>hk,λk _ hd=>by
  simp only[PSt.mark,Tr.get_set];rw[if_neg (λe=>hd (iG.2 (.inl e)))]⟩
structure Adv(J:Nu)(I:Ga)(p:PSt)(H:St)(J':Nu)(I':Ga)(p':PSt)(H':St):Prop where
 keep:Keep J I H H'
 mon:Mon H J J'
 out:GoOut H I I'
 dp:Dp p p'
 rz: ∀a cs m,H.get a=some (.cells cs m)->∃cx b,H'.get a=some (.cells cx {m with tip:=b})
 bx: ∀id a,J id=some (some a)->id∉p'.wr->H'.get a=H.get a/\J' id=some (some a)
def Adv.refl(J:Nu)(I:Ga)(p:PSt)(H:St):Adv J I p H J I p H:=⟨.refl J I H,.refl H J,.refl H I,.refl p,λa cs m h=>⟨cs,m.tip,h⟩,λ_ _ h _=>⟨rfl,h⟩⟩
def Adv.trans{J J' J'':Nu}{I I' I'':Ga}{p p' p'':PSt}{H H' H'':St}(h:Adv J I p H J' I' p' H')(h':Adv J' I' p' H' J'' I'' p'' H''):Adv J I p H J'' I'' p'' H'':=
 ⟨h.keep.trans h.mon h'.keep h.out,h.mon.trans h'.mon h.keep.dom,h.out.trans h'.out h.keep.dom,h.dp.trans h'.dp,λa cs m e=>by
  obtain⟨cx,b,h1⟩:=h.rz a cs m e;obtain⟨sw,b',h2⟩:=h'.rz a cx _ h1;exact⟨sw,b',h2⟩,λid a hi hd=>by
  obtain⟨e1,e2⟩:=h.bx id a hi λhh=>hd (h'.dp.wr id hh)
  obtain⟨e3,e4⟩:=h'.bx id a e2 hd;exact⟨e3.trans e1,e4⟩⟩
def Adv.g{J:Nu}{I I':Ga}{p:PSt}{H:St}(g:GoOut H I I'):Adv J I p H J I' p H:=⟨.refl J I H,.refl H J,g,.refl p,λa cs m h=>⟨cs,m.tip,h⟩,λ_ _ h _=>⟨rfl,h⟩⟩
def gT(pc:fB)(ac:FuncId->Array Value->St->Option (Value×St)):Prop:=
 ∀g args p v own p',pc g args p=some (v,own,p')->∀(J:Nu) (I:Ga) (H:St) (us:Array Value),Mem J I p H->RL J H (args.map (·.1)) us.toList->
  (∀(i:Nat) (x:PV) (w:Value),args[i]?=some (x,true)->us.toList[i]?=some w->Ow J I H (.slot i) x w)->
  ∃u H' J' I',ac g us H=some (u,H')/\R J' H' v u/\(own=true->Ow J' I' H' .hand v u)/\Mem J' I' p' H'/\Adv J I p H J' I' p' H'/\∀j,j<H.next->H.get j=none->H'.get j=none
section
variable{P:Program}{J J':Nu}{I I1 I':Ga}{H H':St}{S:PS}{A:Slots}
def Mem.some_get{p:PSt}(M:Mem J I p H){id a:Nat}(h:J id=some (some a)):H.get a≠none:=by
 obtain⟨o,ho⟩:=M.live id a h;have:=M.get id o ho;cases o with
 |box cs=>obtain⟨a',us,h1,h2,_⟩:=this;rw[h]at h1;simp only[ojE]at h1;subst h1;rw[h2];simp
 |row z ag cs=>obtain⟨a',us,h1,h2,_⟩:=this;rw[h]at h1;simp only[ojE]at h1;subst h1;rw[h2];simp
 |map es=>exact this.elim
 |gone=>simp only[ObjR]at this;rw[h]at this;cases this
def Mem.no_tip{p:PSt}(M:Mem J I p H){id a:Nat}(h:J id=some (some a)){cs:List Value}{m:Mta}(hg:H.get a=some (.cells cs m)):m.tip=false:=by
 obtain⟨o,ho⟩:=M.live id a h;have:=M.get id o ho;cases o with
 |box cx=>obtain⟨a',us,h1,h2,_⟩:=this;rw[h]at h1;simp only[ojE]at h1;subst h1;rw[h2]at hg;simp only[ojE,AObj.cells.injEq]at hg;obtain⟨_,rfl⟩:=hg;rfl
 |row z ag cx=>obtain⟨a',us,h1,h2,_⟩:=this;rw[h]at h1;simp only[ojE]at h1;subst h1;rw[h2]at hg;simp only[ojE,AObj.cells.injEq]at hg;obtain⟨_,rfl⟩:=hg;rfl
 |map es=>exact this.elim
 |gone=>simp only[ObjR]at this;rw[h]at this;cases this
def rz_put{id:Nat}{o:AObj}(hf:H.get id=none): ∀a cs m,H.get a=some (.cells cs m)->∃cx b,(H.put id o).get a=some (.cells cx {m with tip:=b}):=
 λa cs m h=>⟨cs,m.tip,by rw[aL,if_neg (λe=>by rw[e,hf]at h;cases h)];exact h⟩
def aAg(I:Ga):Ga:=λi=>match I i with
 |some (.cell id off)=>some (.cell id off)
 |some (.arg i)=>some (.slot i)
 |some _=>some .out
 |none=>none
def after(H:St)(I I':Ga):Ga:=λi=>match I i with
 |some (.cell _ _)=>I' i
 |some (.arg _)=>I' i
 |none=>I' i
 |some k=>if(H.get i).isNone=true then I' i else some k
def aIv{i t:Nat}(h:I i=some (.slot t))(hn:H.get i≠none):after H I I' i=some (.slot t):=by cases e:H.get i with
 |none=>exact absurd e hn
 |some o=>simp[after,h,e]
def aMQ{i:Nat}(h:I i=some .out)(hn:H.get i≠none):after H I I' i=some .out:=by cases e:H.get i with
 |none=>exact absurd e hn
 |some o=>simp[after,h,e]
def aGG{i:Nat}{k:K}(h:I' i=some k)(hk:k≠ .out)(hg:GoOut H (aAg I) I'):after H I I' i=some k:=by
 unfold after;split
 ·exact h
 ·exact h
 ·exact h
 ·rename_i k' bu hne2 ge;split
  ·exact h
  ·rename_i hn;have:aAg I i=some .out:=by
    unfold aAg;rw[ge];cases k'<;>first|rfl|exact absurd rfl (bu _ _)|exact absurd rfl (hne2 _)
   rw[hg i (λe=>hn (by rw[e];rfl)) this]at h
   simp only[ojE]at h;exact absurd h.symm hk
def call_ok{pc:fB}{ac:FuncId->Array Value->St->Option (Value×St)}(bj:gT pc ac){p p':PSt}(M:Mem J I p H)(F:FR J I H S A){g:Nat}{args:List (PV×Bool)}{us:Array Value}(hr:RL J H (args.map (·.1)) us.toList)
    (kd: ∀(i:Nat) (x:PV) (w:Value),args[i]?=some (x,true)->us.toList[i]?=some w->Ow J I H (.arg i) x w) {v:PV} {own:Bool} (h:pc g args p=some (v,own,p')):
    ∃u H' J' I',ac g us H=some (u,H')/\R J' H' v u/\Mem J' I' p' H'/\FR J' I' H' S A/\(own=true->Ow J' I' H' .hand v u)/\Adv J I p H J' I' p' H'/\∀j,j<H.next->H.get j=none->H'.get j=none:=by
 have Mc:Mem J (aAg I) p H:=⟨M.le,M.lt,M.inj,M.live,λid o ho=>(M.get id o ho).g2 λi off hi=>by simp only[aAg,hi],M.free,M.ver⟩
 obtain⟨u,H',J',I',h1,h2,h3,h4,h5,h6⟩:=bj g args p v own p' h J (aAg I) H us Mc hr (λi x w hx hw=>(kd i x w hx hw).weak λj hj=>by simp only[aAg,hj])
 refine⟨u,H',J',after H I I',h1,h2,?_,?_,λho=>(h3 ho).weak λi hi=>aGG hi (by simp) h5.out,⟨?_,h5.mon,?_,h5.dp,h5.rz,h5.bx⟩,h6⟩
 ·exact⟨h4.le,h4.lt,h4.inj,h4.live,λid o ho=>(h4.get id o ho).g2 λi off hi=>aGG hi (by simp) h5.out,h4.free,h4.ver⟩
 ·exact F.keep h5.keep h5.mon λi t hi hn=>⟨by simp only[aAg,hi],aIv hi hn⟩
 ·exact h5.keep.weak λa ha=>by simp only[aAg,ha]
 ·exact λi hn hi=>aMQ hi hn
def aDe{es:List PV}{bs:List UInt8}(h:fO es=some bs){us:List Value}(r:RL J H es us): ∃ns:List Int,us=ns.map (Value.int .u8)/\bs=ns.map (λn=>UInt8.ofNat n.toNat)/\AI.bytesOf us=some ns:=by
 induction es generalizing bs us with
 |nil=>simp only[fO,ojE]at h;subst h;have:=r.nil_inv;subst this;exact⟨[],rfl,rfl,rfl⟩
 |cons x es ih=>
  unfold fO at h;split at h
  ·cases ‹_::_=[]›
  ·rename_i n rr e;cases e;rw[mjE]at h;obtain⟨bs',h1,rfl⟩:=h;obtain⟨u,jd,rfl,hx,hr⟩:=r.cons_inv;cases hx;obtain⟨ns,rfl,rfl,h4⟩:=ih h1 hr;exact⟨n::ns,rfl,rfl,by simp only[AI.bytesOf,h4];rfl⟩
  ·cases h
def aAe{es:List PV}{bs:List UInt8}(h:fO es=some bs):fL es=es:=by
 induction es generalizing bs with
 |nil=>rfl
 |cons x es ih=>
  unfold fO at h;split at h
  ·cases ‹_::_=[]›
  ·rename_i n rr e;cases e;rw[mjE]at h;obtain⟨bs',h1,_⟩:=h;have:=ih h1;simp only[fL,fmC,PV.cells]at this⊢;rw[this];rfl
  ·cases h
def aK4(ns:List Int)(b:ByteArray):(ns.foldl (λr n=>r.push (UInt8.ofNat n.toNat)) b).data.toList=b.data.toList++ns.map (λn=>UInt8.ofNat n.toNat):=by
 induction ns generalizing b with
 |nil=>simp
 |cons n ns ih=>simp only[List.foldl_cons,ih,mpC];simp[ByteArray.push]
def aKq{s d:TypeId}{x v:PV}{u:Value}(r:R J H x u)(h:wX P s d x=some v):
    ∃w,(match(bif aE u then aY P (convert s d u)else none)with|some y=>some y|none=>oT P H s d u)=some w/\R J H v w:=by
 unfold wX at h;split at h<;>try cases h
 rename_i e hs hd;split at h<;>try cases h
 rename_i he;split at h<;>try cases h
 rename_i es mw;rw[mjE]at h;obtain⟨bs,hb,rfl⟩:=h;have qn: ∀ns:List Int,bs=ns.map (λn=>UInt8.ofNat n.toNat)->R J H (.str bs) (.string (ns.foldl (λr n=>r.push (UInt8.ofNat n.toNat)) ByteArray.empty)):=by
  intro ns hn;have:=R.str (J:=J) (H:=H) (ns.foldl (λr n=>r.push (UInt8.ofNat n.toNat)) ByteArray.empty)
  rw[aK4]at this;rw[hn];simpa using this
 have ny: ∃w,(match(bif aE (.slice none 0 0)then aY P (convert s d (.slice none 0 0))else none)with|some y=>some y|none=>oT P H s d (.slice none 0 0))=some w/\R J H (.str []) w:=by
  refine⟨.string ByteArray.empty,?_,.str ByteArray.empty⟩;have:aY P (convert s d (.slice none 0 0))=some (.string ByteArray.empty):=by
   simp only[aY,convert,aA,aF,hs,hd,he,obS,Conv.bytesToString,aB];rfl
  simp only[aE,this];rfl
 rcases kS mw with⟨h1,rfl⟩|h1
 ·simp only[fO,ojE]at hb;subst hb;rcases h1 with rfl|rfl
  ·cases r with
   |emp0=>exact ny
   |emp1 id off c rcs m hr=>
    refine⟨_,by simp only[aE,cdf,oT,hs,hd,he,hr.1,rZ,AI.bytesOf,omS];rfl,?_⟩
    exact qn [] rfl
   |emp2 b o s' c=>exact⟨_,by simp only[aE,cdf,oT,hs,hd,he];rfl,qn [] rfl⟩
  ·cases r;exact ny
 ·subst h1;cases r with
  |sl _ _ id off c rcs m hz fy hr hm bv hh=>
   obtain⟨_,_,_,mf,m',l,k1,k2,k3,k4,k5⟩:=aFg (.sl 1 es id off c rcs m hz fy hr hm bv hh);rw[aAe hb]at k5;obtain⟨ns,rfl,h2,h3⟩:=aDe hb k5;rw[Nat.mul_one]at k4;exact⟨_,by simp only[aE,cdf,oT,hs,hd,he,k1.1,k4,h3,omS],qn ns h2⟩
def aF1{xs:List PV}{us:List Value}(r:RL J H xs us):RL J H ((pN xs).map (·.1)) us/\∀(i:Nat) (x:PV),(pN xs)[i]?≠some (x,true):=by
 induction xs generalizing us with
 |nil=>exact⟨r,λi x h=>by simp[pN]at h⟩
 |cons x xs ih=>
  obtain⟨u,jd,rfl,hx,hr⟩:=r.cons_inv;obtain⟨h1,h2⟩:=ih hr;refine⟨.cons hx.wk h1,λi y h=>?_⟩
  cases i with
  |zero=>simp[pN]at h
  |succ i=>simp only[pN,gcS]at h;exact h2 i y h
def kL(xs:List PV):(pN xs).length=xs.length:=by
 induction xs with
 |nil=>rfl
 |cons x xs ih=>simp[pN,ih]
def isE_wk(x:PV):isE (PI.wk x)=false:=by
 cases x with
 |sl z es=>cases es<;>rfl
 |tup xs=>
  cases xs with
  |nil=>rfl
  |cons y ys=>
   show isE (.tup (PI.wk y::wks ys))=false;cases y with
   |sl z es=>cases es<;>rfl
   |_=>rfl
 |_=>rfl
def isE_tup{x:PV}{xs:List PV}:isE (.tup (x::xs))=match x with| .sl _ []=>true|_=>false:=by
 cases x with
 |sl z es=>cases es<;>rfl
 |_=>rfl
def Ow.wk{k:K}{x:PV}{u:Value}(o:Ow J I H k x u)(h:isE x=false):Ow J I H k (wk x) u:=by
 induction o with
 |nil x=>exact .nil _
 |exact x _ _ _ rcs m hr=>exact .exact _ _ _ _ rcs m hr
 |zer x b o=>exact .zer _ b o
 |tip z es id off c rcs m hr ht hw hg hb hk=>
  cases es with
  |nil=>simp[isE]at h
  |cons e es=>exact .tip z (e::es) id off c rcs m hr ht hw hg hb hk
 |tup x xs u us hx o ih=>
  refine .tup _ _ u us ?_ ?_
  ·cases x with
   |sl z es=>cases es<;>rfl
   |agg _=>cases hx
   |tup _=>cases hx
   |und=>cases hx
   |_=>rfl
  cases o with
  |nil=>exact .nil _
  |exact _ _ _ _ rcs m hr=>exact .exact _ _ _ _ rcs m hr
  |zer _ b o=>exact .zer _ b o
  |tip z es id off c rcs m hr ht hw hg hb hk=>
   cases es with
   |nil=>simp[isE]at h
   |cons e es=>exact .tip z (e::es) id off c rcs m hr ht hw hg hb hk
  |tup y ys v vs _ o'=>cases hx
def passA_ok{take:Bool}: ∀(xs:List Operand) (n:Nat) (I:Ga) (S:PS),FR J I H S A->xs.all (aM P)=true->RL J H ((jY take S xs).1.map (·.1)) (xs.map (ev A))/\
    ∃I',FR J I' H (jY take S xs).2 A/\(∀(i:Nat) (x:PV) (w:Value),(jY take S xs).1[i]?=some (x,true)->(xs.map (ev A))[i]?=some w->Ow J I' H (.arg (n+i)) x w)/\G2 I I'/\(∀i k,k<n->I i=some (.arg k)->I' i=some (.arg k)):=by
 intro xs;induction xs with
 |nil=>intro n I S F _;exact⟨.nil,I,F,λi x w h=>(by simp[jY]at h),.refl I,λ_ _ _ h=>h⟩
 |cons x xs ih=>
  intro n I S F hx;simp only[alC,bjE]at hx;have rx:=aZ F hx.1;cases take with
  |false=>
   obtain⟨h1,I',h2,h3,h4,h5⟩:=ih (n+1) I S F hx.2;refine⟨.cons rx.wk h1,I',h2,λi y w hy hw=>?_,h4,λi k hk hi=>h5 i k (by omega) hi⟩
   cases i with
   |zero=>simp[jY]at hy
   |succ i=>
    simp only[jY,cdf,gcS]at hy;simp only[mpC,gcS]at hw;have:=h3 i y w hy hw;rw[show n+(i+1)=n+1+i by omega];exact this
  |true=>
   obtain⟨I0,F0,how,g0,ga⟩:=aF4 F x hx.1;have F1:FR J (PI.mv .hand (.arg n) I0) H (qU S x) A:=F0.g λi t hi=>by simp[PI.mv,hi]
   obtain⟨h1,I',h2,h3,h4,h5⟩:=ih (n+1) _ (qU S x) F1 hx.2;refine⟨.cons rx.wk h1,I',h2,λi y w hy hw=>?_,(g0.trans (.mv (by simp) (by simp))).trans h4,λi k hk hi=>?_⟩
   ·cases i with
    |zero=>
     simp only[jY,gcZ,ojE,pjE]at hy;simp only[mpC,gcZ,ojE]at hw;obtain⟨rfl,hb⟩:=hy;subst hw;simp only[Bool.true_and,bjE,Bool.not_eq_true']at hb;exact(((how hb.1).mv (k':= .arg n)).wk hb.2).weak λj hj=>h5 j n (by omega) hj
    |succ i=>
     simp only[jY,cdt,gcS]at hy;simp only[mpC,gcS]at hw;have:=h3 i y w hy hw;rw[show n+(i+1)=n+1+i by omega];exact this
   ·exact h5 i k (by omega) (by simp[PI.mv,ga i k hi])
def pop_ok{pc:fB}{ac:FuncId->Array Value->St->Option (Value×St)}(bj:gT pc ac){p p':PSt}{base i:Nat}(M:Mem J I p H)(F:FR J I H S A)(hf:H.get (base+i)=none)(bi:base+i<H.next)
    {o:Oper} (ho:o.op.operands.all (aM P)=true) {sq take own:Bool} {v:PV} {S':PS} (h:pop P pc sq o take S p=some (v,own,S',p')):
    ∃u H' J' I',aop P ac base i o A H=some (u,H')/\R J' H' v u/\Mem J' I' p' H'/\FR J' I' H' S' A/\(own=true->Ow J' I' H' .hand v u)/\Adv J I p H J' I' p' H'/\
      (∀j,j<H.next->j≠base+i->H.get j=none->H'.get j=none):=by
 unfold pop at h;unfold aop;cases hk:aW o with
 |pure=>
  simp only[hk,mjE,pjE]at h;obtain⟨⟨v',fc,S''⟩,hp,rfl,rfl,rfl,rfl⟩:=h;unfold aBn at hp;split at hp
  ·rename_i r hpp;simp only[ojE]at hp;subst hp;obtain⟨u,I',h1,h2,h3,h4,h5⟩:=aFL F ho hpp;exact⟨u,H,J,I',by simp only[qZ,h1];rfl,h2,M.g2 h5,h3,h4,.g h5.out,λj _ _ hj=>hj⟩
  ·cases sq with
   |false=>cases hp
   |true=>
    simp only[cdt]at hp;obtain⟨dst,op,ty,pos,af,g⟩:=o;cases op<;>simp only at hp<;>try cases hp
    rename_i s d x;rw[mjE]at hp;obtain⟨v2,hb,he⟩:=hp;simp only[pjE]at he;obtain⟨rfl,rfl,rfl⟩:=he
    replace ho:=sR ho
    simp only[Op.operands,alC,List.all_nil,bnA]at ho;obtain⟨w,h1,h2⟩:=aKq (aZ F ho) hb;exact⟨w,H,J,I,by simp only[qZ,jN,mjE];exact⟨w,h1,rfl⟩,h2,M,F,λh=>(by cases h),.refl J I _ H,λj _ _ hj=>hj⟩
 |read=>
  simp only[hk,mjE,pjE]at h;obtain⟨⟨v',fc,p''⟩,hp,rfl,rfl,rfl,rfl⟩:=h;obtain⟨u,I',h1,h2,h3,h4,h5,h6⟩:=pread_ok M F ho hp;refine⟨u,H,J,I',by simp only[h1];rfl,h2,h3,h4,h5,⟨.refl J I H,.refl H J,h6,?_,λa cs m h=>⟨cs,m.tip,h⟩,λ_ _ h _=>⟨rfl,h⟩⟩,λj _ _ hj=>hj⟩
  obtain⟨dst,op,ty,pos,af,g⟩:=o;cases op with
  |load t a=>
   simp only[kJ]at hp;split at hp
   ·rename_i v2 hv;cases hc:take&&aIY v2 with
    |false=>rw[hc,cdf]at hp;simp only[ojE,pjE]at hp;obtain⟨_,_,rfl⟩:=hp;exact .refl p
    |true=>
     rw[hc,cdt]at hp;simp only[ojE,pjE]at hp;obtain⟨_,_,rfl⟩:=hp;unfold eI;split
     ·split
      ·split
       ·exact .mark p _ _
       ·exact .refl p
      ·exact .refl p
     ·exact .refl p
   ·cases hp
  |slice t x lo hi mx=>
   simp only[kJ,mjE,pjE]at hp;obtain⟨_,_,_,_,rfl⟩:=hp;exact .refl p
  |_=>simp only[kJ]at hp;cases hp
 |alloc=>
  simp only[hk,mjE,pjE]at h;obtain⟨⟨v',fc,p''⟩,hp,rfl,rfl,rfl,rfl⟩:=h;obtain⟨u,ob,J',I',h1,h2,h3,h4,h5,h6,h7,h8,h9,h10,h11⟩:=aKt M F hf bi ho hp;refine⟨u,H.put (base+i) ob,J',I',by simp only[h1];rfl,h2,h3,h4,h5,⟨(Keep.put hf).weak λ_ _=>rfl,h6,h7,⟨h8,λid hd=>by rw[h10.1];exact hd,λid hd=>by rw[h10.2];exact hd,λk hk _=>h11 k hk⟩,rz_put hf,λid a hi _=>⟨by rw[aL,if_neg (λe=>M.some_get hi (by rw[e];exact hf))],by rw[h9 id (M.le _ _ hi)];exact hi⟩⟩,λj _ bu hj=>?_⟩
  rw[aL,if_neg bu];exact hj
 |eff=>
  simp only[hk]at h;simp only;obtain⟨dst,op,ty,pos,af,g⟩:=o
  replace ho:=sR ho
  cases op with
  |store t a x=>
   simp only[Op.operands,alC,List.all_nil,bnA,bjE]at ho;simp only[peff,mjE,pjE]at h;obtain⟨p2,hp,rfl,rfl,rfl,rfl⟩:=h;obtain⟨I0,F0,how,g0⟩:=pO F x ho.2;obtain⟨H',I',h1,h2,h3,h4,h5,h6,h7,i0,a0,hi0,hd0,ho0⟩:=aKj (M.g2 g0) F0 (aZ F ho.1) (aZ F ho.2) how hp;refine⟨undef,H',J,I',by simp only[aA6,h1];rfl,.und _,h2,h3,λh=>(by cases h),⟨h4.weak λa ha=>(g0 a).1 ha,.refl H J,g0.out.trans h5 (λ_ h=>h),?_,?_,λid a hi hd=>⟨ho0 a λe=>hd (by rw[M.inj id i0 a hi (by rw[e];exact hi0)];exact hd0),hi⟩⟩,?_⟩
   ·
    unfold kI at hp;split at hp
    ·split at hp
     ·rename_i cs n _ _;cases hc:Nat.beq (pev S x).cells.length n&&Nat.ble _ cs.length&&(pev S x).cells.all PV.one with
      |false=>rw[hc,cdf]at hp;cases hp
      |true=>rw[hc,cdt]at hp;simp only[ojE]at hp;subst hp;exact .upd p _ _
     ·rename_i z ag cs n _ _;cases hc:Nat.beq (pev S x).cells.length n&&Nat.ble _ cs.length&&(pev S x).cells.all PV.one with
      |false=>rw[hc,cdf]at hp;cases hp
      |true=>rw[hc,cdt]at hp;simp only[ojE]at hp;subst hp;exact .upd p _ _
     ·cases hp
    ·cases hp
   ·intro a' cs m hg;unfold cO at h1;split at h1
    ·split at h1
     ·rename_i cs2 m2 n bh _;cases hc:m2.wr&&Nat.beq (ev A x).cells.size n&&Nat.ble _ cs2.length&&(ev A x).cells.toList.all one with
      |false=>rw[hc,cdf]at h1;cases h1
      |true=>
       rw[hc,cdt]at h1;split at h1
       ·simp only[ojE]at h1;subst h1;rw[aL];split
        ·rename_i e;subst e;have:=(bQ bh).1;rw[hg]at this;simp only[ojE,AObj.cells.injEq]at this;obtain⟨_,rfl⟩:=this;exact⟨_,m.tip,rfl⟩
        ·exact⟨cs,m.tip,hg⟩
       ·rename_i gg vv hgg;cases hlm:m2.tip&&Nat.ble m2.lim _ with
        |true=>
         rw[hlm,cdt]at h1;simp only[ojE]at h1;subst h1;rw[aL];split
         ·rename_i e;subst e;have:=(bQ bh).1;rw[hg]at this;simp only[ojE,AObj.cells.injEq]at this;obtain⟨_,rfl⟩:=this;exact⟨_,m.tip,rfl⟩
         ·exact⟨cs,m.tip,hg⟩
        |false=>
        rw[hlm,cdf]at h1;simp only[ojE]at h1;subst h1;exfalso;have hv:=h4.vers;have h0:=M.ver gg;have bc:=(bQ bh).2;simp only[St.good,hgg]at bc;have hvv:=nqE bc;have h0':=h2.ver gg;simp only[St.bump,St.ver,Tr.get_set,if_true,Option.getD_some]at h0';omega
     ·cases h1
    ·cases h1
   ·intro j hj bu hn;cases hh:H'.get j with
    |none=>rfl
    |some ob=>
     exfalso;unfold cO at h1;split at h1
     ·split at h1
      ·rename_i cs2 m2 n bh _;cases hc:m2.wr&&Nat.beq (ev A x).cells.size n&&Nat.ble _ cs2.length&&(ev A x).cells.toList.all one with
       |false=>rw[hc,cdf]at h1;cases h1
       |true=>
        rw[hc,cdt]at h1;have dc: ∀k o,H.row k=some (cs2,m2)->(H.put k o).get j=some ob->False:=λk o bh hh=>by
         rw[aL]at hh;split at hh
         ·rename_i e;rw[<-e]at bh;rw[(bQ bh).1]at hn;cases hn
         ·rw[hn]at hh;cases hh
        split at h1
        ·simp only[ojE]at h1;subst h1;exact dc _ _ bh hh
        ·cases hlm:m2.tip&&Nat.ble m2.lim _ with
         |true=>rw[hlm,cdt]at h1;simp only[ojE]at h1;subst h1;exact dc _ _ bh hh
         |false=>
         rw[hlm,cdf]at h1;simp only[ojE]at h1;subst h1;have:(H.put _ _).get j=some ob:=hh;rw[aL]at this;split at this
         ·rename_i e;subst e;rw[(bQ bh).1]at hn;cases hn
         ·rw[hn]at this;cases this
      ·cases h1
     ·cases h1
  |call c=>
   obtain⟨callee,cargs,argTypes⟩:=c;simp only[Op.operands,Call.operands,Array.toList_append,List.all_append,bjE]at ho;have hgen: ∀{g:Nat} {args:List (PV×Bool)},mA take S ⟨callee,cargs,argTypes⟩=some (g,args)->∃us I',aAV (ev A) ⟨callee,cargs,argTypes⟩=some (g,us)/\RL J H (args.map (·.1)) us.toList/\
          FR J I' H (jY take S cargs.toList).2 A/\(∀(i:Nat) (x:PV) (w:Value),args[i]?=some (x,true)->us.toList[i]?=some w->Ow J I' H (.arg i) x w)/\G2 I I':=by
    intro g' args hc;unfold mA at hc;split at hc
    ·rename_i f pk;simp only at pk;subst pk;simp only[aAV];have hfo:aM P f=true:=by simpa using ho.1
     have rf:=aZ F hfo;split at hc
     ·rename_i gg first captured hpf
      simp only[ojE,pjE]at hc;obtain⟨rfl,rfl⟩:=hc;rw[hpf]at rf;generalize ev A f=w at rf;cases rf with
      |fn _ _ _ us vs hl hh dj hh'=>
       have h1:RL J H first us.toList:=⟨hl,hh⟩
       have h2:RL J H captured vs.toList:=⟨dj,hh'⟩;obtain⟨n1,n2⟩:=aF1 h1;obtain⟨m1,m2⟩:=aF1 h2;obtain⟨p1,I',p2,p3,p4,_⟩:=passA_ok (take:=take) cargs.toList first.length I S F ho.2
       have dd:(jY take S cargs.toList).1.length=cargs.toList.length:=by have:=p1.1;simpa using this
       refine⟨_,I',rfl,?_,p2,λi x w hx hw=>?_,p4⟩
       ·have:=n1.append (p1.append m1);simpa using this
       ·simp only[Array.toList_append,Array.toList_map,apA]at hw;rcases Nat.lt_or_ge i first.length with hi|hi
        ·rw[List.getElem?_append_left (by rw[kL];exact hi)]at hx
         exact absurd hx (n2 i x)
        ·rw[List.getElem?_append_right (by rw[kL];exact hi),kL]at hx
         rw[List.getElem?_append_right (by rw[<-h1.1];exact hi),<-h1.1]at hw
         rcases Nat.lt_or_ge (i-first.length) cargs.toList.length with hj|hj
         ·rw[List.getElem?_append_left (by rw[dd];exact hj)]at hx
          rw[List.getElem?_append_left (by rw[List.length_map];exact hj)]at hw
          have:=p3 _ x w hx hw;rw[show first.length+(i-first.length)=i by omega]at this
          exact this
         ·rw[List.getElem?_append_right (by rw[dd];exact hj)]at hx
          exact absurd hx (m2 _ x)
     ·cases hc
    ·cases hc
   cases callee with
   |builtin b=>
    cases b with
    |append=>
     simp only[peff]at h;simp only[aA6];split at h
     ·rename_i s x hargs;simp only[hargs]at ho⊢;simp only[alC,List.all_nil,bnA,bjE]at ho;simp only[mjE,pjE]at h;obtain⟨⟨v',fc,S''⟩,hp,rfl,rfl,rfl,rfl⟩:=h;obtain⟨u,H',I',h1,h2,h3,h4,h5,h6,h7,h8⟩:=aH7 M F hf bi ho.2.1 ho.2.2 hp;have bf: ∀j,H'.get j=H.get j∨j=base+i∨(∃cs m b,(H.get j=some (.cells cs m)/\m.tip=true)/\H'.get j=some (.cells cs {m with tip:=b})):=by
       intro j;unfold iH at h1;split at h1
       ·split at h1
        ·rename_i e d _ _;cases hc:fits d (ev A x)with
         |false=>rw[hc,cdf]at h1;cases h1
         |true=>
          rw[hc,cdt]at h1;split at h1
          ·rename_i info _;split at h1
           ·rename_i n xs z _ _;cases hc2:xs.all one&&Nat.ble 1 info.size&&Nat.ble 1 info.bytes&&Nat.beq z.cells.size info.size&&dQ (ev A s)with
            |false=>rw[hc2,cdf]at h1;cases h1
            |true=>
             rw[hc2,cdt]at h1;cases hc3:Nat.beq n 0 with
             |true=>rw[hc3,cdt]at h1;simp only[ojE,pjE]at h1;obtain⟨_,rfl⟩:=h1;exact .inl rfl
             |false=>
              rw[hc3,cdf]at h1;have dc: ∀o,(H.put (base+i) o).get j=H.get j∨j=base+i∨(∃cs m b,(H.get j=some (.cells cs m)/\m.tip=true)/\(H.put (base+i) o).get j=some (.cells cs {m with tip:=b})):=λo=>by
               rw[aL];by_cases e:j=base+i
               ·exact .inr (.inl e)
               ·rw[if_neg e];exact .inl rfl
              unfold kC at h1;split at h1
              ·cases hc4:Nat.ble (n*info.bytes) 1073741824 with
               |false=>rw[hc4,cdf]at h1;cases h1
               |true=>rw[hc4,cdt]at h1;simp only[ojE,pjE]at h1;obtain⟨_,rfl⟩:=h1;exact dc _
              ·rename_i id off len k _;cases hc4:Nat.ble ((len+n)*info.bytes) 1073741824 with
               |false=>rw[hc4,cdf]at h1;cases h1
               |true=>
                rw[hc4,cdt]at h1;split at h1
                ·rename_i cs m bh;split at h1
                 ·rename_i old _;cases hc5:Nat.beq k len with
                  |true=>rw[hc5,cdt]at h1;simp only[ojE,pjE]at h1;obtain⟨_,rfl⟩:=h1;exact dc _
                  |false=>
                   rw[hc5,cdf]at h1;cases hc6:m.tip&&m.wr&&Nat.beq m.z info.size&&Nat.beq (off+len*info.size) cs.length&&m.grp.isSome with
                   |false=>rw[hc6,cdf]at h1;cases h1
                   |true=>
                    rw[hc6,cdt]at h1;simp only[ojE,pjE]at h1;obtain⟨_,rfl⟩:=h1;rw[aL];by_cases e:j=base+i
                    ·exact .inr (.inl e)
                    ·rw[if_neg e,aL];by_cases e2:j=id
                     ·subst e2;rw[if_pos rfl];exact .inr (.inr ⟨cs,m,false,⟨(bQ bh).1,by simp only[bjE]at hc6;exact hc6.1.1.1.1⟩,rfl⟩)
                     ·rw[if_neg e2];exact .inl rfl
                 ·cases h1
                ·cases h1
              ·rename_i b0 o0 s0 l0 k0 _;cases hc4:Nat.beq s0 1&&Nat.ble (n*info.bytes) 1073741824 with
               |false=>rw[hc4,cdf]at h1;cases h1
               |true=>rw[hc4,cdt]at h1;simp only[ojE,pjE]at h1;obtain⟨_,rfl⟩:=h1;exact dc _
              ·cases h1
           ·cases h1
          ·cases h1
        ·cases h1
       ·cases h1
      refine⟨u,H',J,I',h1,h2,h3,h4,h5,⟨h6,.refl H J,h7,.refl p,λa cs m hg=>?_,λid a hi _=>⟨?_,hi⟩⟩,λj hj bu hn=>?_⟩
      ·rcases bf a with e|e|⟨cx,m',b,e1,e2⟩
       ·exact⟨cs,m.tip,by rw[e];exact hg⟩
       ·subst e;rw[hf]at hg;cases hg
       ·rw[hg]at e1;simp only[ojE,AObj.cells.injEq]at e1;obtain⟨⟨rfl,rfl⟩,_⟩:=e1;exact⟨_,b,e2⟩
      ·rcases bf a with e|e|⟨cx,m',b,e1,e2⟩
       ·exact e
       ·exact absurd (e▸hf) (M.some_get hi)
       ·exfalso;have:=M.no_tip hi e1.1;rw[e1.2]at this;cases this
      ·rcases bf j with e|e|⟨cx,m',b,e1,e2⟩
       ·rw[e];exact hn
       ·exact absurd e bu
       ·rw[hn]at e1;cases e1.1
     ·cases h
    |_=>simp only[peff,mA]at h;cases h
   |invoke r m=>simp only[peff,mA]at h;cases h
   |value f=>
    simp only[peff]at h;simp only[aA6];split at h
    ·rename_i g' args hc;obtain⟨us,I1,hu,hrl,F1,kd,g1⟩:=hgen hc;simp only[hu];simp only[mjE,pjE]at h;obtain⟨⟨v',fc,p2⟩,hp,rfl,rfl,rfl,rfl⟩:=h;obtain⟨u,H',J',I',h1,h2,h3,h4,h5,h6,h7⟩:=call_ok bj (M.g2 g1) F1 hrl kd hp;exact⟨u,H',J',I',h1,h2,h3,h4,h5,(Adv.g g1.out).trans h6,λj hj _ hn=>h7 j hj hn⟩
    ·cases h
  |_=>simp only[peff]at h;cases h
end
end Go.PI
namespace Go.PI
open Go.AI
structure Qt(H H':St):Prop where
 vers:H'.vers=H.vers
 get: ∀a ob,H.get a=some ob->H'.get a=some ob∨∃cs m b,ob= .cells cs m/\m.tip=true/\H'.get a=some (.cells cs {m with tip:=b})
def Qt.refl(H:St):Qt H H:=⟨rfl,λa ob h=> .inl h⟩
def Qt.bx{J:Nu}{I:Ga}{H H':St}{p:PSt}(q:Qt H H')(M:Mem J I p H){id a:Nat}(h:J id=some (some a)):H'.get a=H.get a:=by
 cases e:H.get a with
 |none=>exact absurd e (M.some_get h)
 |some ob=>
  rcases q.get a ob e with e1|⟨cs,m,b,e1,e2,_⟩
  ·exact e1
  ·subst e1;rw[M.no_tip h e]at e2;cases e2
def Tr.setF_setF{N:Type}: ∀(f:Nat) (t:Tr N) (n:Nat) (x y:N),Tr.setF f (Tr.setF f t n x) n y=Tr.setF f t n y:=by
 intro f;induction f with
 |zero=>intro t n x y;rfl
 |succ f ih=>
  intro t n x y;cases t with
  |nil=>
   simp only[Tr.setF];cases h:Nat.beq n 0 with
   |true=>simp only[cdt,Tr.setF,h]
   |false=>
    simp only[cdf];cases h2:Nat.beq (n%2) 1 with
    |true=>simp only[cdt,Tr.setF,h,h2,cdf,ih]
    |false=>simp only[cdf,Tr.setF,h,h2,ih]
  |node v l r=>
   simp only[Tr.setF];cases h:Nat.beq n 0 with
   |true=>simp only[cdt,Tr.setF,h]
   |false=>
    simp only[cdf];cases h2:Nat.beq (n%2) 1 with
    |true=>simp only[cdt,Tr.setF,h,h2,cdf,ih]
    |false=>simp only[cdf,Tr.setF,h,h2,ih]
def Tr.set_set{N:Type}(t:Tr N)(n:Nat)(x y:N):Tr.set (Tr.set t n x) n y=Tr.set t n y:=Tr.setF_setF _ t n x y
def put_put(H:St)(id:Nat)(a b:AObj):(H.put id a).put id b=H.put id b:=by
 simp only[St.put,Tr.set_set]
section
variable{P:Program}{J J':Nu}{I I1 I':Ga}{H H':St}{S:PS}{A:Slots}
def aIu{p:PSt}{id z bytes:Nat}(M:Mem J I p H)(F:FR J I H S A)(hf:H.get id=none)(bi:id<H.next)(hz1:1<=z){x:PV}{w:Value}{es:List PV}(mw:mO z x=some es)(rs:R J H x w)(how:Ow J I H .hand x w):
    ∃old Hc m,RL J Hc (fL es) old/\(∀n vals,Nat.ble ((es.length+n)*bytes) 1073741824=true->kC H id z bytes n vals w=some (.slice (some ⟨id,0,none⟩) (es.length+n) (es.length+n+1),Hc.put id (.cells (old++vals) m)))/\
      (∀e∈es,e.cells.length=z/\e.cells.all PV.pur=true)/\Mem J I p Hc/\FR J I Hc S A/\Hc.get id=none/\Hc.next=H.next/\m.z=z/\m.tip=true/\m.wr=true/\m.grp.isSome=true/\Hc.good m=true/\m.lim<=old.length/\
      Keep J I H Hc/\Qt H Hc/\old.length=es.length*z/\(∀j,H.get j=none->Hc.get j=none):=by
 have hgt:=aJc M z id;rcases kS mw with⟨h1,rfl⟩|h1
 ·have rse:R J H .emp w:=by
   rcases h1 with rfl|rfl
   ·exact rs
   ·cases rs;exact .emp0
  have li:Ow J I H .hand .emp w∨w= .slice none 0 0:=by
   rcases h1 with rfl|rfl
   ·exact .inl how
   ·right;cases rs;rfl
  refine⟨[],H,dO z id,.nil,λn vals cy=>?_,λe he=>by simp at he,M,F,hf,rfl,rfl,rfl,rfl,rfl,hgt,nlR _,.refl J I H,.refl H,by simp,λ_ h=>h⟩
  simp only[lnN,Nat.zero_add]at cy⊢;cases rse with
  |emp0=>simp only[kC,cy,cdt];rfl
  |emp1 id0 off c rcs m hr=>
   have:c=0:=by
    rcases li with how|how
    ·cases how;rfl
    ·cases how
   subst this;simp only[kC,Nat.zero_add,cy,cdt,hr.1,Nat.zero_mul,rZ];rfl
  |emp2 b o s' c=>
   rcases li with how|how
   ·cases how;have hq:(Nat.beq 1 1&&Nat.ble (n*bytes) 1073741824)=true:=by rw[cy];rfl
    simp only[kC,hq,cdt];rfl
   ·cases how
 ·subst h1;obtain⟨id0,off,cc,rcs,m,l,hw,hr,kv,hb,hl,hrl,mn⟩: ∃id0 off cc rcs m l,w= .slice (some ⟨id0,off,none⟩) es.length cc/\Fz J H id0 rcs m/\m.z=z/\off+es.length*z<=rcs.length/\cut rcs off (es.length*z)=some l/\RL J H (fL es) l/\(∀e∈es,e.cells.length=z/\e.cells.all PV.pur=true):=by
   cases rs with
   |sl _ _ id0 off cc rcs m hz hs hr hm hb hh=>
    obtain⟨_,_,fy,mf,m',l,k1,k2,k3,k4,k5⟩:=aFg (.sl z es id0 off cc rcs m hz hs hr hm hb hh);exact⟨id0,off,cc,mf,m',l,rfl,k1,k2,k3,k4,k5,fy⟩
  have hll:l.length=es.length*z:=by rw[<-hrl.1,dR (λe he=>(mn e he).1)]
  subst hw;by_cases gj:cc=es.length
  ·refine⟨l,H,dO z id,hrl,λn vals cy=>?_,mn,M,F,hf,rfl,rfl,rfl,rfl,rfl,hgt,Nat.zero_le _,.refl J I H,.refl H,hll,λ_ h=>h⟩
   rw[gj];simp only[kC,cy,cdt,hr.1,hl];rw[show Nat.beq es.length es.length=true by simp[cG]]
   rfl
  ·cases how with
   |exact=>exact absurd rfl gj
   |tip z0 es0 _ _ _ rcs2 m2 hr2 ht fq hg hb2 hk=>
    have:rcs2=rcs/\m2=m:=by have:=hr2.1;rw[hr.1]at this;simp only[ojE,pjE]at this;exact⟨this.1.symm,this.2.symm⟩
    obtain⟨rfl,rfl⟩:=this;obtain⟨bf,bc⟩:=bQ hr.1;have hii:id0≠id:=λe=>by rw[e,hf]at bf;cases bf
    have kp:Keep J (λi=>if i=id0 then none else some .out) H (H.put id0 (.cells rcs2 {m2 with tip:=false})):=by
     refine⟨rfl,nlR _,λa ha=>?_,λa hn cs m bn=>?_⟩
     ·rw[aL]at ha;split at ha
      ·cases ha
      ·exact ha
     ·by_cases e:a=id0
      ·subst e;rw[bf]at bn;simp only[ojE,AObj.cells.injEq]at bn;obtain⟨rfl,rfl⟩:=bn;refine⟨false,by rw[aL,if_pos rfl],λ_=>rfl,λh=>?_⟩
       simp at h
      ·exact⟨m.tip,by rw[aL,if_neg e];exact bn,λh=>h,λ_=>rfl⟩
    have re: ∀i k,I i=some k->k≠ .hand->(if i=id0 then none else some K.out)=some K.out:=λi k hi ge=>by
     rw[if_neg];intro e;rw[e,hk]at hi;simp only[ojE]at hi;exact ge hi.symm
    refine⟨l,H.put id0 (.cells rcs2 {m2 with tip:=false}),{m2 with lim:=l.length},hrl.keep kp (.refl H J),λn vals cy=>?_,mn,?_,F.keep kp (.refl H J) λi t hi _=>⟨re i _ hi (by simp),hi⟩,
     by rw[aL,if_neg (Ne.symm hii)];exact hf,rfl,kv,ht,fq,hg,bc,nlR _,kp.weak λa ha=>re a _ ha (by simp),?_,hll,λj hj=>by rw[aL,if_neg (λe=>by rw[e,bf]at hj;cases hj)];exact hj⟩
    ·simp only[kC,cy,cdt,hr.1,hl];rw[show Nat.beq cc es.length=false by rw[cG];simp[gj]]
     simp only[cdf];rw[show(m2.tip&&m2.wr&&Nat.beq m2.z z&&Nat.beq (off+es.length*z) rcs2.length&&m2.grp.isSome)=true by
      rw[kv]at hb2;simp only[ht,fq,hg,cG,kv,hb2,decide_true,Bool.and_self]]
     rfl
    ·refine⟨M.le,M.lt,M.inj,M.live,λk o ge=>?_,λa ha=>?_,M.ver⟩
     ·refine(M.get k o ge).keep kp (.refl H J) rfl (λa ha=>?_) λi fe hi _=>⟨re i _ hi (by simp),hi⟩
      rw[aL,if_neg (λe=>hr.2 k (by rw[<-e];exact ha))]
     ·rw[aL,if_neg (λe=>by subst e;rw[M.free a ha]at bf;cases bf)];exact M.free a ha
    ·refine⟨rfl,λa ob bn=>?_⟩
     rw[aL];by_cases e2:a=id0
     ·subst e2;rw[bf]at bn;simp only[ojE]at bn;subst bn;rw[if_pos rfl];exact .inr ⟨rcs2,m2,false,rfl,ht,rfl⟩
     ·rw[if_neg e2];exact .inl bn
def mN{a:Nat}{x:Operand}(h:isT a x=false)(u:Value):ev (A.store (some a) u) x=ev A x:=by
 cases x with
 |tmp t=>
  simp only[isT,cG,dfN]at h;simp only[ev,Slots.store,aA5];rw[if_neg (λe=>h e.symm)]
 |_=>rfl
def R.pin_of{z:Nat}{fs:List PV}{v:Value}(h:R J H (.sl z fs) v){id len cap:Nat}(e:v= .slice (some ⟨id,0,none⟩) len cap)(k:Nat):R J H (.pin fs k 0) (.pointer (some ⟨id,0+k*z,none⟩)):=by
 cases h with
 |sl _ _ bp off c rcs m hz hs hr hm hb h=>
  simp only[Value.slice.injEq,ojE,Addr.mk.injEq]at e;obtain⟨⟨rfl,rfl,_⟩,_,_⟩:=e;exact R.pin z fs k 0 bp 0 rcs m hs hr hb h
def aFT{ac:FuncId->Array Value->St->Option (Value×St)}{p:PSt}{base:Nat}{oA oI oS:Oper}{iA iI iS:Nat}(M:Mem J I p H)(F:FR J I H S A)(hf:H.get (base+iA)=none)(bi:base+iA<H.next)
    (hA:oA.op.operands.all (aM P)=true) (hI:oI.op.operands.all (aM P)=true) (hS:oS.op.operands.all (aM P)=true) {S':PS} (h:aH8 P S oA oI oS=some S'):
    ∃u1 u2 H1 H2 I',aA6 P ac H (ev A) oA (base+iA)=some (u1,H1)/\jN P (ev (A.store oA.dst u1)) oI=some u2/\aA6 P ac H1 (ev ((A.store oA.dst u1).store oI.dst u2)) oS (base+iS)=some (undef,H2)/\
      aW oA= .eff/\aW oI= .pure/\aW oS= .eff/\oA.guard=none/\oI.guard=none/\oS.guard=none/\oS.dst=none/\jI oA=true/\
      Mem J I' p H2/\FR J I' H2 S' ((A.store oA.dst u1).store oI.dst u2)/\Adv J I p H J I' p H2/\Qt H H1/\Qt H H2/\H1.next=H.next/\(∀j,j≠base+iA->H.get j=none->H1.get j=none/\H2.get j=none):=by
 obtain⟨dA,opA,tyA,posA,afA,gA⟩:=oA;obtain⟨dI,opI,tyI,posI,afI,gI⟩:=oI;obtain⟨dS,opS,tyS,posS,afS,gS⟩:=oS;unfold aH8 at h;split at h
 ·rename_i c a t1 a' n b t2 b' x e1 e2 e3 e4 e5 e6;simp only at e1 e2 e3 e4 e5 e6;subst e1 e2 e3 e4 e5 e6;obtain⟨callee,cargs,ats⟩:=c;split at h
  ·rename_i s zz ec ea;simp only at ec ea;subst ec;cases hc:Nat.beq a a'&&Nat.beq b b'&& !Nat.beq a b&& !isT a n&& !isT a x&& !isT b x&&gA.isNone&&gI.isNone&&gS.isNone with
   |false=>rw[hc,cdf]at h;cases h
   |true=>
    rw[hc,cdt]at h;simp only[bjE,Bool.not_eq_true',Option.isNone_iff_eq_none]at hc;obtain⟨⟨⟨⟨⟨⟨⟨⟨ha,hb⟩,hab⟩,hn⟩,hxa⟩,hxb⟩,hgA⟩,hgI⟩,hgS⟩:=hc;have ha:=nqE ha;subst ha;have hb:=nqE hb;subst hb;have hab:a≠b:=by intro e;rw[e]at hab;simp[cG]at hab
    subst hgA hgI hgS;rw[mjE]at h;obtain⟨v,hv,rfl⟩:=h
    replace hA:=sR hA
    replace hI:=sR hI
    replace hS:=sR hS
    simp only[Op.operands,Call.operands,Array.toList_append,List.all_append,bjE,ea,alC,List.all_nil,bnA]at hA;simp only[Op.operands,alC,List.all_nil,bnA,bjE]at hI hS;unfold pappV at hv;split at hv
    ·rename_i t tz ju;split at hv
     ·rename_i e d he hd;split at hv
      ·rename_i info ag hi gz;split at hv
       ·rename_i es y zv kk k mw ml hzv hk;cases hc2:Nat.ble 1 info.size&&Nat.ble 1 info.bytes&&Nat.beq zv.cells.size info.size&&jD S s&&Nat.ble ((es.length+1)*info.bytes) 1073741824&&Nat.beq t1 t&&Nat.beq t2 e&&decide (k=(es.length:Int))&&shape ag info.size (pev S x)with
        |false=>rw[hc2,cdf]at hv;cases hv
        |true=>
         rw[hc2,cdt]at hv;simp only[ojE]at hv;subst hv;simp only[bjE,djE]at hc2;obtain⟨⟨⟨⟨⟨⟨⟨⟨c1,c2⟩,c3⟩,c4⟩,c5⟩,c6⟩,c7⟩,c8⟩,c9⟩:=hc2;have c6:=nqE c6;subst c6;have c7:=nqE c7;subst c7;subst c8;have hz1:=Nat.le_of_ble_eq_true c1;obtain⟨zvals,hz2,hz3,hz4,hz5⟩:=wT (aZ F hA.2.2) hz1 ml;obtain⟨I0,F0,how,g0⟩:=pO F s hA.2.1;have M0:=M.g2 g0;obtain⟨old,Hc,m,k1,k2,k3,k4,k5,k6,k7,k8,k9,k10,k11,k12,k13,k14,k15,k16,k17⟩:=aIu (bytes:=info.bytes) M0 F0 hf bi hz1 mw (aZ F hA.2.1) (how c4);have hag1:=k2 1 zvals c5;have nc:zvals.length=info.size:=by
          rw[<-hz3.1];simp only[fL,fmC,fmN,apN];exact(hz4 y (by simp)).1
         have fh:zvals.all one=true:=hz3.one (by
          simp only[fL,fmC,fmN,apN];exact nO (hz4 y (by simp)).2)
         have cr:dQ (ev A s)=true:=by
          have rs:=aZ F hA.2.1;rcases kS mw with⟨h1|h1,_⟩|h1<;>rw[h1]at rs<;>generalize ev A s=w at rs<;>cases rs<;>rfl
         have ju:ats.toList=[t1,tz]:=ju;have na:iH P H (base+iA) ⟨.builtin .append,cargs,ats⟩ (ev A s) (ev A zz)=some (.slice (some ⟨base+iA,0,none⟩) (es.length+1) (es.length+1+1),Hc.put (base+iA) (.cells (old++zvals) m)):=by
          unfold iH;simp only[ju,he,hd,hi,hz5,cdt,hz2,hzv];rw[show(zvals.all one&&Nat.ble 1 info.size&&Nat.ble 1 info.bytes&&Nat.beq zv.cells.size info.size&&dQ (ev A s))=true by
           simp only[fh,c1,c2,c3,cr,Bool.and_self]]
          exact hag1
         obtain⟨xl,xp⟩:=nH c9;have rx:=aZ F hS.2;have hxc:=rx.cells (nO xp);have nr:(ev A x).cells.toList.length=info.size:=by rw[<-hxc.1,xl]
         have co:iK P t2=some info.size:=by simp only[iK,hi];rfl
         have ql:(wk (pev S x)).cells.length=info.size:=by rw[gW,fF,xl]
         have ng:RL J Hc (fL [wk (pev S x)]) (ev A x).cells.toList:=by
          simp only[fL,fmC,fmN,apN];rw[gW];exact hxc.wks.keep k14 (.refl H J)
         obtain⟨I',j1,j2,j3,j4,j5,j6⟩:=aAA (m:=m) (xs:=[wk (pev S x)]) k4 k5 k6 (by rw[k7];exact bi) hz1 (λq hq=>by
          rcases List.mem_append.1 hq with hq|hq
          ·exact k3 q hq
          ·simp only[List.mem_singleton]at hq;subst hq;exact⟨ql,by rw[gW];exact zF xp⟩) k1 ng k8 k9 k10 k11 k12 (es.length+1+1) (by simp)
         have lk:dN info.size (es++ [wk (pev S x)])= .sl info.size (es++ [wk (pev S x)]):=by
          cases hh:es++ [wk (pev S x)]with
          |nil=>simp at hh
          |cons q l=>rfl
         rw[lk]at j1 j4;have bw:cO P (Hc.put (base+iA) (.cells (old++zvals) m)) t2 (.pointer (some ⟨base+iA,0+es.length*info.size,none⟩)) (ev A x)=some (Hc.put (base+iA) (.cells (old++(ev A x).cells.toList) m)):=by
          have bh:(Hc.put (base+iA) (.cells (old++zvals) m)).row (base+iA)=some (old++zvals,m):=aU (by rw[aL,if_pos rfl]) k12
          simp only[cO,bh,co];rw[show(m.wr&&Nat.beq (ev A x).cells.size info.size&&Nat.ble (0+es.length*info.size+info.size) (old++zvals).length&&(ev A x).cells.toList.all one)=true by
           rw[hxc.one (nO xp),cG,aIb];simp only[Array.length_toList]at nr;simp only[k10,nr,decide_true,bnA,Bool.true_and,djE,lnA,nc,k16];omega]
          simp only[cdt];have dc:eZ (old++zvals) (0+es.length*info.size) (ev A x).cells.toList=old++(ev A x).cells.toList:=by
           rw[zX _ _ _ (by simp only[lnA,nc,k16,nr];omega),Nat.zero_add,<-k16,List.take_left',nr]
           ·rw[List.drop_eq_nil_of_le (by simp only[lnA,nc];omega),apN]
           ·rfl
          rw[dc];obtain⟨⟨g,v⟩,hgv⟩:=Option.isSome_iff_exists.1 k11;rw[hgv];simp only;rw[show(m.tip&&Nat.ble m.lim (0+es.length*info.size))=true by rw[k9,aIb];simp only[Bool.true_and,djE];omega]
          simp only[cdt,put_put]
         have hq1:Qt H (Hc.put (base+iA) (.cells (old++zvals) m)):=⟨k15.vers,λq ob hq=>by
          rw[aL,if_neg (λe=>by rw[e,hf]at hq;cases hq)];exact k15.get q ob hq⟩
         have hq2:Qt H (Hc.put (base+iA) (.cells (old++(ev A x).cells.toList) m)):=⟨k15.vers,λq ob hq=>by
          rw[aL,if_neg (λe=>by rw[e,hf]at hq;cases hq)];exact k15.get q ob hq⟩
         obtain⟨I1,F1,g1⟩:=j3.put (d:=some a) j1 (λ_=>j4)
         have hpin:R J (Hc.put (base+iA) (.cells (old++(ev A x).cells.toList) m)) (pinL (.sl info.size (es++ [wk (pev S x)]))) (.pointer (some ⟨base+iA,0+es.length*info.size,none⟩)):=by
          have hle:(es++ [wk (pev S x)]).length-1=es.length:=by simp
          simp only[pinL,hle];exact R.pin_of j1 rfl es.length
         obtain⟨I2,F2,g2⟩:=F1.put (d:=some b) (v:=pinL (.sl info.size (es++ [wk (pev S x)]))) (u:= .pointer (some ⟨base+iA,0+es.length*info.size,none⟩)) (own:=false) hpin (λh=>by cases h)
         refine⟨.slice (some ⟨base+iA,0,none⟩) (es.length+1) (es.length+1+1),.pointer (some ⟨base+iA,0+es.length*info.size,none⟩),_,_,I2,?_,?_,?_,rfl,rfl,rfl,rfl,rfl,rfl,rfl,rfl,(j2.g2 g1).g2 g2,F2,⟨?_,.refl H J,?_,.refl p,?_,λ_ _ hi _=>⟨hq2.bx M hi,hi⟩⟩,hq1,hq2,k7,λj hj hn=>?_⟩
         ·simp only[aA6,ea];exact na
         ·simp only[jN];have hnk:ev (A.store (some a) (.slice (some ⟨base+iA,0,none⟩) (es.length+1) (es.length+1+1))) n= .int kk (es.length:Int):=by
           rw[mN hn];have rn:=aZ F hI.2;rw[hk]at rn;generalize ev A n=w at rn;cases rn;rfl
          have hak:ev (A.store (some a) (.slice (some ⟨base+iA,0,none⟩) (es.length+1) (es.length+1+1))) (.tmp a)= .slice (some ⟨base+iA,0,none⟩) (es.length+1) (es.length+1+1):=by
           simp only[ev,Slots.store,aA5,if_true]
          rw[hnk,hak];simp only[gG,he,co];rw[show bC (es.length:Int) (es.length+1)=true by simp only[bC,bjE,djE];omega]
          simp only[cdt,Int.toNat_natCast]
         ·simp only[aA6];have hx1:ev ((A.store (some a) (.slice (some ⟨base+iA,0,none⟩) (es.length+1) (es.length+1+1))).store (some b) (.pointer (some ⟨base+iA,0+es.length*info.size,none⟩))) x=ev A x:=by
           rw[mN hxb,mN hxa]
          have hb1:ev ((A.store (some a) (.slice (some ⟨base+iA,0,none⟩) (es.length+1) (es.length+1+1))).store (some b) (.pointer (some ⟨base+iA,0+es.length*info.size,none⟩))) (.tmp b)= .pointer (some ⟨base+iA,0+es.length*info.size,none⟩):=by
           simp only[ev,Slots.store,aA5,if_true]
          rw[hx1,hb1,bw];rfl
         ·have:=Keep.trans (I:=I0) k14 (.refl H J) (j5.weak (I:=I0) λ_ _=>rfl) (.refl H I0)
          exact this.weak λq hq=>(g0 q).1 hq
         ·exact((g0.out (H:=H)).trans j6 (λq hq=>k14.dom q hq)).trans ((g1.trans g2).out (H:=H)) (λ_ h=>h)
         ·intro q cs mm hq;rcases hq2.get q _ hq with e|⟨cx,m',b',e1,_,e2⟩
          ·exact⟨cs,mm.tip,e⟩
          ·simp only[AObj.cells.injEq]at e1;obtain⟨rfl,rfl⟩:=e1;exact⟨_,b',e2⟩
         ·have hc0:=k17 j hn;exact⟨by rw[aL,if_neg hj];exact hc0,by rw[aL,if_neg hj];exact hc0⟩
       ·cases hv
      ·cases hv
     ·cases hv
    ·cases hv
  ·cases h
 ·cases h
end
end Go.PI
namespace Go.AI
section
variable{w0:W0}{P:Program}{Y:Mp}{H:St}{w:World}
def sA{cs l:List Value}{off n:Nat}(h:cut cs off n=some l):l=(cs.drop off).take n/\n<=cs.length-off:=by
 unfold cut at h;simp only[cG,Bool.cond_decide]at h;split at h
 ·rename_i hl;cases h;refine⟨rfl,?_⟩;simp at hl;omega
 ·cases h
def zU{C:Array Value}{cs:List Value}{o off n:Nat}(bh: ∀(i:Nat) (v:Value),cs[i]?=some v->∃u,C[o+i]?=some u/\VR Y v u)(hl:n<=cs.length-off):
    VRL Y ((cs.drop off).take n) ((C.toList.drop (o+off)).take n):=by
 have co:n=0∨o+off+n<=C.size:=by
  rcases Nat.eq_zero_or_pos n with h|h
  ·exact .inl h
  ·right;have:off+n-1<cs.length:=by omega
   obtain⟨u,hu,_⟩:=bh (off+n-1) _ (geG this);have:=(Array.getElem?_eq_some_iff.1 hu).1;omega
 refine⟨by simp;omega,λi x u hx hu=>?_⟩
 rw[List.getElem?_take]at hx hu;split at hx
 ·rename_i hi;rw[if_pos hi]at hu;rw[List.getElem?_drop]at hx hu;obtain⟨u',jt,hr⟩:=bh _ _ hx;have:C.toList[o+off+i]?=some u':=by rw[Nat.add_assoc];simpa using jt
  rw[this]at hu;cases hu;exact hr
 ·cases hx
def aAJ{w:World}{b o:Nat}{C:Array Value}{t:TypeId}{fr:Nat×Nat}(h:w.heap[b]?=some (.cells C t fr)):w.cell? ⟨b,o,none⟩=C[o]?:=by
 simp[World.cell?,h]
def aJF{w:World}{b o n:Nat}{C:Array Value}{t:TypeId}{fr:Nat×Nat}(h:w.heap[b]?=some (.cells C t fr))(hl:((C.toList.drop o).take n).length=n):
    (loadCells ⟨b,o,none⟩ n).run P w= .ok ((C.toList.drop o).take n).toArray w:=by
 have:=run_loadCells_list (P:=P) w ⟨b,o,none⟩ ((C.toList.drop o).take n) (λj v hj=>by
  rw[eW,aAJ h];rw[List.getElem?_take]at hj;split at hj
  ·rw[List.getElem?_drop]at hj;simpa using hj
  ·cases hj)
 rw[hl]at this;exact this
def aGE{t:TypeId}{a b v:Value}(S:Sim w0 P Y H w)(r:VR Y a b)(h:kV P H t a=some v): ∃v',(Instr.loadAt t b).run P w= .ok v' w/\VR Y v v':=by
 unfold kV at h;split at h<;>try cases h
 rename_i id off;obtain⟨p,hp,rfl⟩:=r.ptr_inv;split at h<;>try cases h
 rename_i cs m bh;obtain⟨hg,bc⟩:=St.row_some bh;obtain⟨C,ty,fr,hC,hcs,_⟩:=(S.row id p cs m hp hg bc).row;unfold Instr.loadAt;simp only[Instr.sureAddr,loadVar,Sem.run_bind,Sem.run_pure,Result.andThen_ok];split at h<;>try cases h
 ·rename_i gz;rw[eE (by rw[iZ];exact gz)]
  split at h<;>try cases h
  rename_i n hn;rw[mjE]at h;obtain⟨l,hl,rfl⟩:=h;obtain⟨rfl,hle⟩:=sA hl;have hv:=zU hcs hle;refine⟨_,?_,.mkAgg hv⟩;have hlen:((C.toList.drop (p.o+off)).take n).length=n:=by rw[<-hv.1];simp;omega
  simp only[Result.andThen_ok,if_true,Sem.run_bind,eE (w:=w) (show aR P (Go.sizeOf t)=some n by rw[aQ];exact hn),aJF hC hlen,Sem.run_pure]
 ·rename_i gz;rw[eE (by rw[iZ];exact gz)]
  obtain⟨u,hu,hr⟩:=hcs _ _ h;refine⟨u,?_,hr⟩;simp[aAJ hC,hu]
def rowZ_ok(S:Sim w0 P Y H w)(id:Nat)(p:fN)(z:Nat)(hp:Y id=some p)(h:vI H id z=true):p.z=z:=by
 unfold vI at h;split at h
 ·rename_i cs m bh;obtain⟨hg,bc⟩:=St.row_some bh;rw[cG,djE]at h;rw[<-h];exact(S.row id p cs m hp hg bc).z
 ·cases h
def FR(Y:Mp):Option (Nat×Value)->Option (Nat×Value)->Prop
 |none,none=>True
 |some (i,v),some (j,u)=>i=j/\VR Y v u
 |_,_=>False
def aread_ok{Z Z':Operand->Value}{o:Oper}{v:Value}(S:Sim w0 P Y H w)(hρ: ∀x∈o.op.operands,VR Y (Z x) (Z' x))(h:iT P H Z o=some v):
    ∃v',(execOp Z' o).run P w= .ok (.value v') w/\VR Y v v':=by
 unfold iT at h;unfold execOp;cases ho:o.op<;>simp only[ho]at h hρ⊢ <;>try cases h
 case load t a=>
  obtain⟨v',h1,h2⟩:=aGE S (hρ a (by simp[Op.operands])) h
  exact⟨v',by simp[h1],h2⟩
 case slice t x lo hi mx=>
  obtain⟨v',h1,h2⟩:=aMK (Y:=Y) (P:=P) (rowZ_ok S) (hρ x (by simp[Op.operands])) (aNQ lo λy hy=>hρ y (by simp[Op.operands,hy])) (aNQ hi λy hy=>hρ y (by simp[Op.operands,hy]))
   (aNQ mx λy hy=>hρ y (by simp[Op.operands,hy])) h
  exact⟨v',by simp[eE h1],h2⟩
def yU: ∀(l:List Value) (ns:List Int),bytesOf l=some ns->l=ns.map (Value.int .u8):=by
 intro l;induction l with
 |nil=>intro ns h;simp only[bytesOf,ojE]at h;subst h;rfl
 |cons x l ih=>
  intro ns h;unfold bytesOf at h;split at h
  ·cases ‹_::_=[]›
  ·rename_i n r e;cases e;rw[mjE]at h;obtain⟨ns',h1,rfl⟩:=h;rw[ih ns' h1];rfl
  ·cases h
def aAM{l:List Value}{ns:List Int}(h:bytesOf l=some ns):l.all aE=true:=by
 rw[yU l ns h,List.all_eq_true];intro x hx;obtain⟨n,_,rfl⟩:=List.mem_map.1 hx;rfl
def aMS{s d:TypeId}{a b v:Value}(S:Sim w0 P Y H w)(r:VR Y a b)(h:oT P H s d a=some v):(convert s d b).run P w= .ok v w:=by
 unfold oT at h;split at h<;>try cases h
 rename_i e hs hd;split at h<;>try cases h
 rename_i he;split at h<;>try cases h
 ·rename_i id off n c;obtain⟨p,cap,hp,rfl,_⟩:=r.slc_inv;split at h<;>try cases h
  rename_i cs m bh;split at h<;>try cases h
  rename_i l hl;rw[mjE]at h;obtain⟨ns,ni,rfl⟩:=h;obtain⟨hg,bc⟩:=St.row_some bh;obtain⟨C,ty,fr,hC,hcs,_⟩:=(S.row id p cs m hp hg bc).row;obtain⟨rfl,hle⟩:=sA hl;have hv:=zU hcs hle;have hlen:((C.toList.drop (p.o+off)).take n).length=n:=by rw[<-hv.1];simp;omega
  have heq:=hv.eq0 (aAM ni);rw[run_convert_bytes_string w s d e _ _ _ hs he hd];refine run_bytesToString w _ n cap ns ?_;rw[aJF hC hlen,heq,yU _ _ ni]
 ·cases r with
  |same _ hp=>simp[aE]at hp
  |emp a' s' cap h'=>
   rw[run_convert_bytes_string w s d e _ _ _ hs he hd];exact run_bytesToString w a' 0 cap [] rfl
end
end Go.AI
namespace Go.AI
section
variable{w0:W0}{P:Program}{Y:Mp}{H:St}{w:World}
def upd(Y:Mp)(id:Nat)(p:fN):Mp:=λk=>if k=id then some p else Y k
def gC(Y:Mp)(id:Nat)(p:fN):upd Y id p id=some p:=by simp[upd]
def fQ{Y:Mp}{id k:Nat}{p:fN}(h:k≠id):upd Y id p k=Y k:=by simp[upd,h]
def KeptO.upd{w0:W0}{Y:Mp}{w:World}(K:KeptO w0 Y w){id:Nat}{q:fN}(h: ∀k o,w0.O k=some o->q.b≠k)(hb:q.b<w.heap.size):KeptO w0 (upd Y id q) w:=
 ⟨K.toKept,λk o hk=>⟨(K.oth k o hk).1,λj r hj=>by
  by_cases e:j=id
  ·subst e;rw[gC]at hj;cases hj;exact h k o hk
  ·rw[fQ e]at hj;exact(K.oth k o hk).2 j r hj⟩,λj r hj=>by
  by_cases e:j=id
  ·subst e;rw[gC]at hj;cases hj;exact hb
  ·rw[fQ e]at hj;exact K.bnd j r hj⟩
def iD{Y:Mp}{id:Nat}(p:fN)(h:Y id=none): ∀k q,Y k=some q->upd Y id p k=some q:=by
 intro k q hk;rw[fQ];exact hk;intro e;subst e;rw[h]at hk;cases hk
def Sim.lt(S:Sim w0 P Y H w){id:Nat}{p:fN}{cs:List Value}{m:Mta}(hp:Y id=some p)(hg:H.get id=some (.cells cs m))(hm:H.good m=true):p.b<w.heap.size:=by
 obtain⟨C,t,fr,hC,_⟩:=(S.row id p cs m hp hg hm).row;exact(Array.getElem?_eq_some_iff.1 hC).1
def Sim.lt_map(S:Sim w0 P Y H w){id:Nat}{p:fN}{es:List (Value×Value)}(hp:Y id=some p)(hg:H.get id=some (.map es)):p.b<w.heap.size:=by
 obtain⟨C,t,hC,_⟩:=(S.map id p es hp hg).map;exact(Array.getElem?_eq_some_iff.1 hC).1
def Sim.put_new(S:Sim w0 P Y H w){id:Nat}{ob:AObj}(h:Y id=none)(hv: ∀cs m g v,ob= .cells cs m->m.grp=some (g,v)->v<=H.ver g):Sim w0 P Y (H.put id ob) w:=by
 have bu: ∀{k p},Y k=some p->k≠id:=by intro k p hk e;subst e;rw[h]at hk;cases hk
 have bf: ∀{k p},Y k=some p->(H.put id ob).get k=H.get k:=by intro k p hk;rw[St.get_put,if_neg (bu hk)]
 refine⟨S.kept,S.dom,S.glob,?_,?_,?_,?_,?_,?_,?_⟩
 ·intro k p cs m hp hg hm;rw[bf hp]at hg;exact S.row k p cs m hp hg hm
 ·intro k p es hp hg;rw[bf hp]at hg;exact S.map k p es hp hg
 ·intro i j p q cs ds m n bm hp hq hg bn hm hn hw hs;rw[bf hp]at hg;rw[bf hq]at bn;exact S.off i j p q cs ds m n bm hp hq hg bn hm hn hw hs
 ·intro i j p q cs ds m n bm hp hq hg bn hm hn hw;rw[bf hp]at hg;rw[bf hq]at bn;exact S.tip i j p q cs ds m n bm hp hq hg bn hm hn hw
 ·intro i j p q es fs bm hp hq hg bn;rw[bf hp]at hg;rw[bf hq]at bn;exact S.maps i j p q es fs bm hp hq hg bn
 ·intro k cs m g v hg jz;rw[St.get_put]at hg;split at hg
  ·cases hg;exact hv cs m g v rfl jz
  ·exact S.vers k cs m g v hg jz
 ·intro i j p q cs ds m n bm hp hq hg bn hm hn hw;rw[bf hp]at hg;rw[bf hq]at bn;exact S.lim i j p q cs ds m n bm hp hq hg bn hm hn hw
def Sim.next(S:Sim w0 P Y H w){n:Nat}(h:H.next<=n):Sim w0 P Y {H with next:=n} w:=
 ⟨S.kept,λid hi=>S.dom id (Nat.le_trans h hi),S.glob,S.row,S.map,S.off,S.tip,S.maps,S.vers,S.lim⟩
def Sim.drawn(S:Sim w0 P Y H w)(n:Nat):Sim w0 P Y H {w with drawn:=n}:=
 ⟨⟨⟨S.kept.os,S.kept.output,S.kept.size,S.kept.old⟩,S.kept.oth,S.kept.bnd⟩,S.dom,S.glob,λid p cs m hp hg hm=>by
      obtain⟨h1,h2,h3,h4,h5⟩:=S.row id p cs m hp hg hm;exact⟨h1,h2,h3,h4,h5⟩,
  λid p es hp hg=>by obtain⟨h1,h2⟩:=S.map id p es hp hg;exact⟨h1,h2⟩,S.off,S.tip,S.maps,S.vers,S.lim⟩
def NewAt(Y:Mp)(p:fN)(O:Obj):AObj->Prop
 | .cells cs m=> ∃C t,O= .cells C t (0,0)/\(∀(i:Nat) (v:Value),cs[i]?=some v->∃u,C[i]?=some u/\VR Y v u)/\(m.tip=true->cs.length<=p.e/\p.e<=C.size)/\p.z=m.z
 | .map es=>O= .map #[] 0/\es=[]
def nN{w:World}{O:Obj}{k:Nat}(h:k<w.heap.size):(w.heap.push O)[k]?=w.heap[k]?:=by
 rw[Array.getElem?_push,if_neg (by omega)]
def zY(w:World)(O:Obj):(w.heap.push O)[w.heap.size]?=some O:=by simp
def Sim.alloc(S:Sim w0 P Y H w){id:Nat}{ob:AObj}{O:Obj}{p:fN}(h:Y id=none)(hid:id<H.next)(dw:H.get id=some ob)(α:NewAt Y p O ob)(hb:p.b=w.heap.size)(ho:p.o=0):
    Sim w0 P (upd Y id p) H {w with heap:=w.heap.push O}:=by
 have cf:=iD p h;have bg: ∀{k q},upd Y id p k=some q->(k=id/\q=p)∨(k≠id/\Y k=some q):=by
  intro k q hk;by_cases e:k=id
  ·subst e;rw[gC]at hk;cases hk;exact .inl ⟨rfl,rfl⟩
  ·rw[fQ e]at hk;exact .inr ⟨e,hk⟩
 have jq: ∀{k q cs m},Y k=some q->H.get k=some (.cells cs m)->H.good m=true->p.b≠q.b:=by
  intro k q cs m hq hg hm;have:=S.lt hq hg hm;omega
 refine⟨⟨⟨S.kept.os,S.kept.output,?_,?_⟩,λk o hk=>⟨(nN (Array.getElem?_eq_some_iff.1 (S.kept.oth k o hk).1).1).trans (S.kept.oth k o hk).1,λj q hj=>by
  have h1:=(Array.getElem?_eq_some_iff.1 (S.kept.oth k o hk).1).1;rcases bg hj with⟨rfl,rfl⟩|⟨_,hq⟩
  ·omega
  ·exact(S.kept.oth k o hk).2 j q hq⟩,λj q hj=>by
  show _<(w.heap.push O).size;rw[Array.size_push];rcases bg hj with⟨rfl,rfl⟩|⟨_,hq⟩
  ·omega
  ·have:=S.kept.bnd j q hq;omega⟩,?_,?_,?_,?_,?_,?_,?_,S.vers,?_⟩
 ·have:=S.kept.size;simp;omega
 ·intro k hk;have:=S.kept.size;show(w.heap.push O)[k]?=_;rw[nN (by omega)];exact S.kept.old k hk
 ·intro k hk;rw[fQ (by omega)];exact S.dom k hk
 ·intro g hg;obtain⟨q,hq,h1,h2⟩:=S.glob g hg;exact⟨q,cf g q hq,h1,h2⟩
 ·intro k q cs m hq hg hm;rcases bg hq with⟨rfl,rfl⟩|⟨hk,fm⟩
  ·rw[dw]at hg;cases hg;obtain⟨C,t,rfl,hcs,cp,hz⟩:=α;refine⟨⟨C,t,(0,0),by rw[hb];exact zY w _,λi v hi=>?_,λht=>(cp ht).2⟩,λ_=>by have:=S.kept.size;omega,λht=>by rw[ho];have:=(cp ht).1;omega,hz,λ_ C1 t1 fr1 e1=>by rw[hb]at e1;have:=(zY w _).symm.trans e1;cases this;rfl⟩
   obtain⟨u,hu,hr⟩:=hcs i v hi;exact⟨u,by rw[ho,Nat.zero_add];exact hu,hr.mono' cf⟩
  ·obtain⟨⟨C,t,fr,hC,hcs,cp⟩,h2,h3,h4,h5⟩:=S.row k q cs m fm hg hm;exact⟨⟨C,t,fr,(nN (S.lt fm hg hm)).trans hC,λi v hi=>let ⟨u,hu,hr⟩:=hcs i v hi;⟨u,hu,hr.mono' cf⟩,cp⟩,h2,h3,h4,λhw C1 t1 fr1 e1=>h5 hw C1 t1 fr1 ((nN (S.lt fm hg hm)).symm.trans e1)⟩
 ·intro k q es hq hg;rcases bg hq with⟨rfl,rfl⟩|⟨hk,fm⟩
  ·rw[dw]at hg;cases hg;obtain⟨rfl,rfl⟩:=α;exact⟨⟨#[],0,by rw[hb];exact zY w _,.nil,.nil⟩,by have:=S.kept.size;omega⟩
  ·obtain⟨⟨ES,c,hC,h1,h2⟩,h3⟩:=S.map k q es fm hg;exact⟨⟨ES,c,(nN (S.lt_map fm hg)).trans hC,h1.mono' cf,h2.mono' cf⟩,h3⟩
 ·intro i j a b cs ds m n bm ha bv hg bn hm hn hw hs;rcases bg ha with⟨rfl,rfl⟩|⟨hi,cz⟩
  ·rcases bg bv with⟨rfl,rfl⟩|⟨hj,di⟩
   ·exact absurd rfl bm
   ·exact λe=>absurd e (jq di bn hn)
  ·rcases bg bv with⟨rfl,rfl⟩|⟨hj,di⟩
   ·exact λe=>absurd e.symm (jq cz hg hm)
   ·exact S.off i j a b cs ds m n bm cz di hg bn hm hn hw hs
 ·intro i j a b cs ds m n bm ha bv hg bn hm hn hw;rcases bg ha with⟨rfl,rfl⟩|⟨hi,cz⟩
  ·rcases bg bv with⟨rfl,rfl⟩|⟨hj,di⟩
   ·exact absurd rfl bm
   ·exact⟨λe=>absurd e (jq di bn hn),λ_ e=>absurd e (jq di bn hn)⟩
  ·rcases bg bv with⟨rfl,rfl⟩|⟨hj,di⟩
   ·exact⟨λe=>absurd e.symm (jq cz hg hm),λ_ e=>absurd e.symm (jq cz hg hm)⟩
   ·exact S.tip i j a b cs ds m n bm cz di hg bn hm hn hw
 ·intro i j a b es fs bm ha bv hg bn;rcases bg ha with⟨rfl,rfl⟩|⟨hi,cz⟩
  ·rcases bg bv with⟨rfl,rfl⟩|⟨hj,di⟩
   ·exact absurd rfl bm
   ·have:=S.lt_map di bn;omega
  ·rcases bg bv with⟨rfl,rfl⟩|⟨hj,di⟩
   ·have:=S.lt_map cz hg;omega
   ·exact S.maps i j a b es fs bm cz di hg bn
 ·intro i j a b cs ds m n bm ha bv hg bn hm hn hw;rcases bg ha with⟨rfl,rfl⟩|⟨hi,cz⟩
  ·rcases bg bv with⟨rfl,rfl⟩|⟨hj,di⟩
   ·exact absurd rfl bm
   ·exact λe=>absurd e (jq di bn hn)
  ·rcases bg bv with⟨rfl,rfl⟩|⟨hj,di⟩
   ·exact λe=>absurd e.symm (jq cz hg hm)
   ·exact S.lim i j a b cs ds m n bm cz di hg bn hm hn hw
def VRL.at{xs us:List Value}(r:VRL Y xs us): ∀(i:Nat) (v:Value),xs[i]?=some v->∃u,us.toArray[i]?=some u/\VR Y v u:=by
 intro i v h;obtain⟨u,hu,hr⟩:=r.get h;exact⟨u,by simpa using hu,hr⟩
def VRL.atA{xs:List Value}{us:Array Value}(r:VRL Y xs us.toList): ∀(i:Nat) (v:Value),xs[i]?=some v->∃u,us[i]?=some u/\VR Y v u:=by
 intro i v h;obtain⟨u,hu,hr⟩:=r.get h;exact⟨u,by simpa using hu,hr⟩
def lO(z:List Value)(n:Nat):(bS z n).length=n*z.length:=by
 induction n with
 |zero=>simp[bS]
 |succ n ih=>simp[bS,ih,Nat.succ_mul,Nat.add_comm]
def iX(z:List Value)(hz:0<z.length): ∀(n i:Nat),(bS z n)[i]?=if i<n*z.length then z[i%z.length]? else none:=by
 intro n;induction n with
 |zero=>intro i;simp[bS]
 |succ n ih=>
  intro i;simp only[bS,List.getElem?_append];split
  ·rename_i h;rw[if_pos (by rw[Nat.succ_mul];omega),Nat.mod_eq_of_lt h]
  ·rename_i h;rw[ih,Nat.succ_mul];have:(i-z.length)%z.length=i%z.length:=by
    conv=>rhs;rw[show i=(i-z.length)+z.length from by omega]
    rw[Nat.add_mod_right]
   rw[this];by_cases h':i-z.length<n*z.length
   ·rw[if_pos h',if_pos (by omega)]
   ·rw[if_neg h',if_neg (by omega)]
def aE3(z:Array Value)(n s:Nat)(hz:z.size=s)(hs:1<=s):(Array.map (λx=>z[x%z.size]!) (Array.range (n*s)))=(bS z.toList n).toArray:=by
 apply Array.ext';apply List.ext_getElem?;intro i;rw[iX z.toList (by simp;omega)]
 simp only[Array.toList_map,Array.toList_range,List.getElem?_map,Array.length_toList,hz];by_cases h:i<n*s
 ·rw[if_pos h,List.getElem?_range h];have h2:i%s<z.size:=by rw[hz];exact Nat.mod_lt _ (by omega)
  simp[h2]
 ·rw[if_neg h];simp;omega
def mZ{z:List Value}(h:z.all aE=true)(n:Nat):(bS z n).all aE=true:=by
 induction n with
 |zero=>rfl
 |succ n ih=>simp only[bS,List.all_append,bjE];exact⟨h,ih⟩
def aMU{Z Z':Operand->Value}{o:Oper}{id:Nat}{v:Value}{ob:AObj}(w:World)(hρ: ∀x∈o.op.operands,VR Y (Z x) (Z' x))(h:eO P Z o id=some (v,ob)):
    ∃v' O p,(execOp Z' o).run P w= .ok (.value v') {w with heap:=w.heap.push O}/\p.b=w.heap.size/\p.o=0/\NewAt Y p O ob/\(∀Y':Mp,Y' id=some p->VR Y' v v'):=by
 unfold eO at h;unfold execOp;cases ho:o.op<;>simp only[ho]at h hρ⊢ <;>try cases h
 case alloc t=>
  split at h<;>try cases h
  rename_i z hz;cases hp:z.cells.toList.all aE with
  |false=>rw[hp]at h;cases h
  |true=>
   rw[hp]at h;simp only[cdt,ojE,pjE]at h;obtain⟨rfl,rfl⟩:=h;refine⟨.pointer (some ⟨w.heap.size,0,none⟩),.cells z.cells t (0,0),⟨w.heap.size,0,0,0⟩,?_,rfl,rfl,⟨z.cells,t,rfl,VRL.atA (.same hp),(λh=>by cases h),rfl⟩,λY' hμ=>VR.ptr id 0 _ hμ⟩
   simp[Instr.alloc,eE hz,newVar,newRow]
 case box t x=>
  have hx:=hρ x (by simp[Op.operands])
  cases hp:(Z x).cells.toList.all one with
  |false=>rw[hp]at h;cases h
  |true=>
   rw[hp]at h;simp only[cdt,ojE,pjE]at h;obtain⟨rfl,rfl⟩:=h;refine⟨.pointer (some ⟨w.heap.size,0,none⟩),.cells (Z' x).cells t (0,0),⟨w.heap.size,0,0,0⟩,?_,rfl,rfl,⟨_,t,rfl,VRL.atA hx.cells,(λh=>by cases h),rfl⟩,λY' hμ=>VR.ptr id 0 _ hμ⟩
   simp[Instr.box,newVar,newRow]
 case buildSlice t len parts=>
  split at h<;>try cases h
  rename_i e hu;split at h<;>try cases h
  rename_i s hs;split at h<;>try cases h
  rename_i z hz;cases hp:(z.cells.toList.all aE&&Nat.ble (len*s) 1000000&&Nat.beq z.cells.size s&&Nat.ble 1 s)with
  |false=>rw[hp]at h;cases h
  |true=>
   rw[hp]at h;simp only[bjE,aIb,cG,djE]at hp;obtain⟨⟨⟨hp,hle⟩,ja⟩,hs1⟩:=hp;simp only[cdt,mjE,pjE]at h;obtain⟨cs,hf,rfl,rfl⟩:=h;have hPR:PR Y (parts.map λ(i,x)=>(i,Z x)).toList (parts.map λ(i,x)=>(i,Z' x)).toList:=by
    simpa using PR_map parts.toList (λx hx=>hρ x.2 (by simp[Op.operands];exact⟨_,Array.mem_toList_iff.1 hx⟩))
   have hz0:=mZ hp len;obtain⟨cx,gf,hr⟩:=aDE (Y:=Y) _ _ _ _ _ _ hPR (VRL.toArray_cells (.same hz0)) hf;refine⟨.slice (some ⟨w.heap.size,0,none⟩) len len,.cells cx e (0,0),⟨w.heap.size,0,len*s,s⟩,?_,rfl,rfl,⟨cx,e,rfl,VRL.atA hr,(λh=>by cases h),rfl⟩,
    λY' hμ=>VR.slc id 0 len len len _ hμ (λ_=>rfl) (nlR _) (.inl (by simp))⟩
   unfold Instr.buildSlice;have hbig: ¬(len*s>2^24):=by omega
   simp only[Sem.run_bind,eE (w:=w) (show aR P (underlying t)=some (.slice e) by rw[aF];exact hu),Result.andThen_ok,
    eE (w:=w) (show aR P (Go.sizeOf e)=some s by rw[aQ];exact hs),if_neg hbig]
   by_cases h0:len*s=0
   ·rw[if_pos h0];have hl0:len=0:=by
     rcases Nat.mul_eq_zero.1 h0 with h|h
     ·exact h
     ·omega
    subst hl0;simp only[bS]at gf;simp only[Sem.run_bind,Sem.run_pure,Result.andThen_ok,Nat.zero_mul,Array.range_zero',Array.map_empty];have rq:Instr.fill (λi=>some (i*s,s)) #[] (parts.map λ(i,x)=>(i,Z' x)).toList=some cx:=gf
    rw[rq];simp[newRow]
   ·rw[if_neg h0];simp only[Sem.run_bind,eE (w:=w) hz,Sem.run_pure,Result.andThen_ok,aE3 z.cells len s ja hs1];have rq:Instr.fill (λi=>some (i*s,s)) (bS z.cells.toList len).toArray (parts.map λ(i,x)=>(i,Z' x)).toList=some cx:=gf
    rw[rq];simp[newRow]
 case makeSlice t l c=>
  have hl:=hρ l (by simp[Op.operands])
  have hc:=hρ c (by simp[Op.operands])
  split at h<;>try cases h
  rename_i e n k hu dj me;rw[dj]at hl;rw[me]at hc;rw[hl.int_inv,hc.int_inv];split at h<;>try cases h
  rename_i info hi;split at h<;>try cases h
  rename_i z hz;cases hp:(decide (0<=n)&&decide (n<=k)&&decide (k*(info.bytes:Int)<=1073741824)&&decide (k<=1073741824)&&z.cells.toList.all aE&&Nat.beq z.cells.size info.size&&Nat.ble 1 info.size)with
  |false=>rw[hp]at h;cases h
  |true=>
   rw[hp]at h;simp only[bjE,aIb,cG,djE]at hp;obtain⟨⟨⟨⟨⟨⟨h0,hnk⟩,hkb⟩,hk⟩,qp⟩,ja⟩,hs1⟩:=hp;have fk:=run_make (P:=P) w t e info z hu hi hz .i64 .i64 n k h0 hnk (by rw[Int.mul_comm];omega) (by omega)
   have qe:madeCells z.cells (k.toNat*info.size)=(bS z.cells.toList k.toNat).toArray:=by
    unfold madeCells;exact aE3 z.cells k.toNat info.size ja hs1
   have nc:z.cells.toList.length=info.size:=by simpa using ja
   simp only[cdt]at h;cases qw:decide (n=k)with
   |true=>
    rw[qw]at h;simp only[cdt,ojE,pjE]at h;obtain⟨rfl,rfl⟩:=h;have:n=k:=by simpa using qw
    subst this;refine⟨.slice (some ⟨w.heap.size,0,none⟩) n.toNat n.toNat,.cells (bS z.cells.toList n.toNat).toArray e (0,0),⟨w.heap.size,0,n.toNat*info.size,info.size⟩,?_,rfl,rfl,
     ⟨_,e,rfl,VRL.at (.same (mZ qp _)),(λh=>by cases h),rfl⟩,λY' hμ=>VR.slc id 0 _ _ _ _ hμ (λ_=>rfl) (nlR _) (.inl (by simp))⟩
    simp only[Sem.run_bind,fk,qe,Result.andThen_ok,Sem.run_pure];rfl
   |false=>
    rw[qw]at h;simp only[cdf,ojE,pjE]at h;obtain⟨rfl,rfl⟩:=h;refine⟨.slice (some ⟨w.heap.size,0,none⟩) n.toNat k.toNat,.cells (bS z.cells.toList k.toNat).toArray e (0,0),⟨w.heap.size,0,k.toNat*info.size,info.size⟩,?_,rfl,rfl,
     ⟨_,e,rfl,?_,(λ_=>?_),rfl⟩,λY' hμ=>VR.slc id 0 _ _ _ _ hμ (λe=>by omega) (by omega) (.inl (by simp))⟩
    ·simp only[Sem.run_bind,fk,qe,Result.andThen_ok,Sem.run_pure];rfl
    ·intro i v hv;have bi:i<n.toNat*z.cells.toList.length:=by
      rw[iX _ (by omega)]at hv
      split at hv
      ·assumption
      ·cases hv
     rw[iX _ (by omega),if_pos bi]at hv
     have hlt':i<k.toNat*z.cells.toList.length:=Nat.lt_of_lt_of_le bi (Nat.mul_le_mul_right _ (by omega))
     have dd:aE v=true:=List.all_eq_true.1 qp v (List.mem_of_getElem? hv);refine⟨v,?_,.same v dd⟩;have:(bS z.cells.toList k.toNat)[i]?=some v:=by rw[iX _ (by omega),if_pos hlt'];exact hv
     simpa using this
    ·constructor
     ·show(bS z.cells.toList n.toNat).length<=k.toNat*info.size;rw[lO,nc];exact Nat.mul_le_mul_right _ (by omega)
     ·show k.toNat*info.size<=(bS z.cells.toList k.toNat).toArray.size;simp[lO,ja]
end
end Go.AI
namespace Go.AI
section
variable{w0:W0}{P:Program}{Y:Mp}{H:St}{w:World}
def qT: ∀(xs cs:List Value) (off:Nat),(eZ cs off xs).length=cs.length
 |[],_,_=>rfl
 |x::xs,cs,off=>by rw[eZ,qT xs];simp
def aKh: ∀(xs cs:List Value) (off i:Nat),off+xs.length<=cs.length->(eZ cs off xs)[i]?=if off<=i/\i<off+xs.length then xs[i-off]? else cs[i]?:=by
 intro xs;induction xs with
 |nil=>intro cs off i _;rw[eZ,if_neg (by simp)]
 |cons x xs ih=>
  intro cs off i h;simp only[lcS]at h;rw[eZ,ih _ _ _ (by simp;omega)]
  by_cases h1:off+1<=i/\i<off+1+xs.length
  ·rw[if_pos h1,if_pos (by simp;omega)]
   rw[show i-off=(i-(off+1))+1 by omega];simp
  ·rw[if_neg h1];by_cases h2:i=off
   ·subst h2;rw[if_pos (by simp),List.getElem?_set_self (by omega)];simp
   ·rw[if_neg (by simp;omega),List.getElem?_set_ne (by omega)]
def aJB(l us:List Value)(a k:Nat)(h:a+us.length<=l.length):
    (l.take a++us++l.drop (a+us.length))[k]?=if a<=k/\k<a+us.length then us[k-a]? else l[k]?:=by
 have hl:(l.take a).length=a:=by simp;omega
 rw[apA,List.getElem?_append];split
 ·rename_i h1;rw[hl]at h1;rw[if_neg (by omega),List.getElem?_take,if_pos h1]
 ·rename_i h1;rw[hl]at h1⊢;rw[List.getElem?_append];split
  ·rename_i h2;rw[if_pos (by omega)]
  ·rename_i h2;rw[if_neg (by omega),List.getElem?_drop]
   congr 1;omega
def wI(l us:List Value)(a:Nat)(h:a+us.length<=l.length):(l.take a++us++l.drop (a+us.length)).length=l.length:=by simp;omega
def RowAt.other{q:fN}{ds:List Value}{n:Mta}(R:RowAt w0 Y w q ds n){b:Nat}{C C':Array Value}{t:TypeId}(hC:w.heap[b]?=some (.cells C t (0,0)))(co:C'.size=C.size)
    (h:q.b=b->∀i,i<ds.length->C'[q.o+i]?=C[q.o+i]?):RowAt w0 Y (w.setRow b C') q ds n:=by
 obtain⟨⟨D,u,fr,hD,ky,cp⟩,h2,h3,h4,h5⟩:=R;refine⟨?_,h2,h3,h4,λhw C1 t1 fr1 e1=>?_⟩
 rotate_left
 ·by_cases hb:q.b=b
  ·rw[hb,setRow_heap w b C C' _ _ hC]at e1;cases e1;rfl
  ·rw[setRow_other _ _ _ _ hb]at e1;exact h5 hw _ _ _ e1
 by_cases hb:q.b=b
 ·rw[hb,hC]at hD;cases hD;refine⟨C',_,_,by rw[hb];exact setRow_heap w b C C' _ _ hC,λi v hi=>?_,λht=>by rw[co];exact cp ht⟩
  obtain⟨u,hu,hr⟩:=ky i v hi;have bi:i<ds.length:=by
   rcases Nat.lt_or_ge i ds.length with h'|h'
   ·exact h'
   ·rw[List.getElem?_eq_none h']at hi;cases hi
  exact⟨u,by rw[h hb i bi];exact hu,hr⟩
 ·exact⟨D,u,fr,by rw[setRow_other _ _ _ _ hb];exact hD,ky,cp⟩
def MapAt.other{q:fN}{es:List (Value×Value)}(R:MapAt w0 Y w q es){b:Nat}{C C':Array Value}{t:TypeId}(hC:w.heap[b]?=some (.cells C t (0,0))):MapAt w0 Y (w.setRow b C') q es:=by
 obtain⟨⟨ES,c,h,h1,h2⟩,h3⟩:=R;have hb:q.b≠b:=by intro e;rw[e,hC]at h;cases h
 exact⟨⟨ES,c,by rw[setRow_other _ _ _ _ hb];exact h,h1,h2⟩,h3⟩
def KeptO.setRow(K:KeptO w0 Y w){b:Nat}(hb:w0.heap.size<=b)(hbo: ∀k o,w0.O k=some o->b≠k)(C':Array Value):KeptO w0 Y (w.setRow b C'):=by
 refine⟨⟨K.os,K.output,by rw[setRow_size];exact K.size,λk hk=>by rw[setRow_other _ _ _ _ (by omega)];exact K.old k hk⟩,λk o hk=>?_,λid p h=>by rw[setRow_size];exact K.bnd id p h⟩
 ·exact⟨by rw[setRow_other _ _ _ _ (Ne.symm (hbo k o hk))];exact(K.oth k o hk).1,(K.oth k o hk).2⟩
def Sim.write(S:Sim w0 P Y H w){id:Nat}{p:fN}{cs:List Value}{m m':Mta}{H':St}{C:Array Value}{t:TypeId}(hp:Y id=some p)(hg:H.get id=some (.cells cs m))(bc:H.good m=true)
    (fq:m.wr=true) (hC:w.heap[p.b]?=some (.cells C t (0,0))) {off:Nat} {xs us:List Value} (hxs:VRL Y xs us) (hlen:off+xs.length<=cs.length)
    (hnext:H'.next=H.next) (hid:H'.get id=some (.cells (eZ cs off xs) m')) (bu: ∀k,k≠id->H'.get k=H.get k)
    (qf:m'.wr=m.wr/\m'.tip=m.tip/\m'.z=m.z/\(∀n,fI m' n↔fI m n)/\(∀n,fI n m'↔fI n m)) (hml:m'.lim=m.lim)
    (nk: ∀k ds n,k≠id->H.get k=some (.cells ds n)->H'.good n=true->H.good n=true/\(¬fI m n∨(m.tip=true/\m.lim<=off)))
    (hvers: ∀k ds n g v,H'.get k=some (.cells ds n)->n.grp=some (g,v)->v<=H'.ver g):
    Sim w0 P Y H' (w.setRow p.b (C.toList.take (p.o+off)++us++C.toList.drop (p.o+off+us.length)).toArray):=by
 have R:=S.row id p cs m hp hg bc;have hin:xs.length=0∨p.o+off+us.length<=C.toList.length:=by
  rcases Nat.eq_zero_or_pos xs.length with h|h
  ·exact .inl h
  ·right;obtain⟨D,u,fr,hD,ky,_⟩:=R.row;rw[hC]at hD;cases hD;have:off+xs.length-1<cs.length:=by omega
   obtain⟨x,hx,_⟩:=ky _ _ (geG this);have:=(Array.getElem?_eq_some_iff.1 hx).1;rw[<-hxs.1];simp;omega
 generalize hC':(C.toList.take (p.o+off)++us++C.toList.drop (p.o+off+us.length)).toArray=C';have bf: ∀k,C'[k]?=if p.o+off<=k/\k<p.o+off+us.length then us[k-(p.o+off)]? else C[k]?:=by
  intro k;rw[<-hC'];rcases hin with h|h
  ·have hu:us=[]:=by have:=hxs.1;rw[h]at this;exact List.eq_nil_of_length_eq_zero this.symm
   subst hu;rw[if_neg (by simp)]
   simp
  ·have:=aJB C.toList us (p.o+off) k h;simpa using this
 have co:C'.size=C.size:=by
  rw[<-hC'];rcases hin with h|h
  ·have hu:us=[]:=by have:=hxs.1;rw[h]at this;exact List.eq_nil_of_length_eq_zero this.symm
   subst hu;simp
  ·have:=wI C.toList us (p.o+off) h;simpa using this
 have qy:(eZ cs off xs).length=cs.length:=qT _ _ _;have Rid:RowAt w0 Y (w.setRow p.b C') p (eZ cs off xs) m':=by
  obtain⟨⟨D,u,fr,hD,ky,cp⟩,h2,h3,h4,h5⟩:=R;rw[hC]at hD;cases hD;refine⟨⟨C',_,_,setRow_heap w p.b C C' _ _ hC,λi v hi=>?_,λht=>?_⟩,λh=>h2 (qf.1▸h),λh=>by rw[qy];exact h3 (qf.2.1▸h),by rw[qf.2.2.1];exact h4,λ_ C1 t1 fr1 e1=>by rw[setRow_heap w p.b C C' _ _ hC]at e1;cases e1;rfl⟩
  ·rw[aKh _ _ _ _ hlen]at hi;rw[bf];split at hi
   ·rename_i h1;rw[if_pos (by have:=hxs.1;omega)]
    obtain⟨u,hu,hr⟩:=hxs.get hi;exact⟨u,by rw[show p.o+i-(p.o+off)=i-off by omega];exact hu,hr⟩
   ·rename_i h1;rw[if_neg (by have:=hxs.1;omega)]
    exact ky i v hi
  ·rw[co];exact cp (qf.2.1▸ht)
 have Roth: ∀k q ds n,k≠id->Y k=some q->H.get k=some (.cells ds n)->H.good n=true->(¬fI m n∨(m.tip=true/\m.lim<=off))->RowAt w0 Y (w.setRow p.b C') q ds n:=by
  intro k q ds n hk hq hgk gr hs;refine(S.row k q ds n hq hgk gr).other hC co (λhb i hi=>?_)
  rw[bf,if_neg];intro h1;rcases hs with hs|⟨ht,hl⟩
  ·exact S.off id k p q cs ds m n (Ne.symm hk) hp hq hg hgk bc gr fq hs hb.symm (q.o+i) (by have:=hxs.1;omega) (by have:=hxs.1;omega) (by omega) (by omega)
  ·exact S.lim id k p q cs ds m n (Ne.symm hk) hp hq hg hgk bc gr ht hb.symm (q.o+i) (by have:=hxs.1;omega) (by have:=hxs.1;omega) (by omega) (by omega)
 have old: ∀{k q ds n},k≠id->Y k=some q->H'.get k=some (.cells ds n)->H'.good n=true->H.get k=some (.cells ds n)/\H.good n=true/\(¬fI m n∨(m.tip=true/\m.lim<=off)):=by
  intro k q ds n hk hq bn hgd';rw[bu k hk]at bn;obtain⟨h1,h2⟩:=nk k ds n hk bn hgd';exact⟨bn,h1,h2⟩
 refine⟨S.kept.setRow (R.wr fq) (λk o hk=>(S.kept.oth k o hk).2 id p hp) C',λk hk=>S.dom k (hnext▸hk),S.glob,?_,?_,?_,?_,?_,hvers,?_⟩
 ·intro k q ds n hq bn gr;by_cases hk:k=id
  ·subst hk;rw[hp]at hq;cases hq;rw[hid]at bn;cases bn;exact Rid
  ·obtain⟨h1,h2,h3⟩:=old hk hq bn gr;exact Roth k q ds n hk hq h1 h2 h3
 ·intro k q es hq bn;have hk:k≠id:=by intro e;subst e;rw[hid]at bn;cases bn
  rw[bu k hk]at bn;exact(S.map k q es hq bn).other hC
 ·intro i j a b as bs n1 n2 bm ha hb ka gt h1 h2 hw hs;by_cases hi:i=id
  ·subst hi;rw[hp]at ha;cases ha;rw[hid]at ka;cases ka;obtain⟨g1,g2,g3⟩:=old (Ne.symm bm) hb gt h2;rw[qy];exact S.off i j p b cs bs m n2 bm hp hb hg g1 bc g2 fq (λh=>hs ((qf.2.2.2.1 n2).2 h))
  ·obtain⟨f1,f2,f3⟩:=old hi ha ka h1;by_cases hj:j=id
   ·subst hj;rw[hp]at hb;cases hb;rw[hid]at gt;cases gt;rw[qy];exact S.off i j a p as cs n1 m bm ha hp f1 hg f2 bc hw (λh=>hs ((qf.2.2.2.2 n1).2 h))
   ·obtain⟨g1,g2,g3⟩:=old hj hb gt h2;exact S.off i j a b as bs n1 n2 bm ha hb f1 g1 f2 g2 hw hs
 ·intro i j a b as bs n1 n2 bm ha hb ka gt h1 h2 hw;by_cases hi:i=id
  ·subst hi;rw[hp]at ha;cases ha;rw[hid]at ka;cases ka;obtain⟨g1,g2,g3⟩:=old (Ne.symm bm) hb gt h2;rw[qy];exact S.tip i j p b cs bs m n2 bm hp hb hg g1 bc g2 (qf.2.1▸hw)
  ·obtain⟨f1,f2,f3⟩:=old hi ha ka h1;by_cases hj:j=id
   ·subst hj;rw[hp]at hb;cases hb;rw[hid]at gt;cases gt;rw[qy];have:=S.tip i j a p as cs n1 m bm ha hp f1 hg f2 bc hw;exact⟨this.1,λh=>this.2 (qf.2.1▸h)⟩
   ·obtain⟨g1,g2,g3⟩:=old hj hb gt h2;exact S.tip i j a b as bs n1 n2 bm ha hb f1 g1 f2 g2 hw
 ·intro i j a b es fs bm ha hb ka gt;have hi:i≠id:=by intro e;subst e;rw[hid]at ka;cases ka
  have hj:j≠id:=by intro e;subst e;rw[hid]at gt;cases gt
  rw[bu i hi]at ka;rw[bu j hj]at gt;exact S.maps i j a b es fs bm ha hb ka gt
 ·intro i j a b as bs n1 n2 bm ha hb ka gt h1 h2 hw;by_cases hi:i=id
  ·subst hi;rw[hp]at ha;cases ha;rw[hid]at ka;cases ka;obtain⟨g1,g2,g3⟩:=old (Ne.symm bm) hb gt h2;rw[qy,hml];exact S.lim i j p b cs bs m n2 bm hp hb hg g1 bc g2 (qf.2.1▸hw)
  ·obtain⟨f1,f2,f3⟩:=old hi ha ka h1;by_cases hj:j=id
   ·subst hj;rw[hp]at hb;cases hb;rw[hid]at gt;cases gt;rw[qy];exact S.lim i j a p as cs n1 m bm ha hp f1 hg f2 bc hw
   ·obtain⟨g1,g2,g3⟩:=old hj hb gt h2;exact S.lim i j a b as bs n1 n2 bm ha hb f1 g1 f2 g2 hw
def aBp(v:Value):v.oneCell'=one v:=by cases v<;>rfl
def aMJ{t:TypeId}{a b x y:Value}{H':St}(S:Sim w0 P Y H w)(ra:VR Y a b)(rx:VR Y x y)(h:cO P H t a x=some H'):
    ∃w',(Instr.storeAt t b y).run P w= .ok () w'/\Sim w0 P Y H' w'/\H'.next=H.next:=by
 unfold cO at h;split at h<;>try cases h
 rename_i id off;obtain⟨p,hp,rfl⟩:=ra.ptr_inv;split at h<;>try cases h
 rename_i cs m n bh hn;obtain⟨hg,bc⟩:=St.row_some bh;cases hc:(m.wr&&Nat.beq x.cells.size n&&Nat.ble (off+n) cs.length&&x.cells.toList.all one)with
 |false=>rw[hc]at h;cases h
 |true=>
  rw[hc]at h;simp only[bjE,aIb,cG,djE]at hc;obtain⟨⟨⟨fq,co⟩,hle⟩,fh⟩:=hc;simp only[cdt]at h;have R:=S.row id p cs m hp hg bc;obtain⟨C,ty,fr,hC,hcs,_⟩:=R.row;have hfr:=R.fz fq C ty fr hC;subst hfr;have hxs:=rx.cells;have gm:x.cells.toList.length=n:=by simpa using co
  have hone': ∀v∈y.cells.toList,v.oneCell'=true:=by
   intro v hv;rw[aBp];have:=hxs.one_eq;rw[fh]at this;exact List.all_eq_true.1 this v hv
  have jp:p.o+off+y.cells.toList.length<=C.size∨y.cells.toList=[]:=by
   rcases Nat.eq_zero_or_pos n with h0|h0
   ·right;apply List.eq_nil_of_length_eq_zero;rw[<-hxs.1,gm,h0]
   ·left;have:off+n-1<cs.length:=by omega
    obtain⟨u,hu,_⟩:=hcs _ _ (geG this);have:=(Array.getElem?_eq_some_iff.1 hu).1;rw[<-hxs.1,gm];omega
  have fk:(Instr.storeAt t (.pointer (some ⟨p.b,p.o+off,none⟩)) y).run P w=
        .ok () (w.setRow p.b (C.toList.take (p.o+off)++y.cells.toList++C.toList.drop (p.o+off+y.cells.toList.length)).toArray):=by
   unfold Instr.storeAt storeVar;have hsy: ¬(y.cells.size≠n):=by have:=hxs.size;omega
   simp only[Instr.sureAddr,Sem.run_bind,Sem.run_pure,Result.andThen_ok,eE (w:=w) (show aR P (Go.sizeOf t)=some n by rw[aQ];exact hn),if_neg hsy]
   rcases jp with hf|hf
   ·have:=run_storeCells_at P p.b (p.o+off) ty y.cells.toList 0 C w hC (by simpa using hf) hone'
    simpa using this
   ·rw[hf];simp only[storeCells,apN,lnN,Nat.add_zero,List.take_append_drop,Array.toArray_toList];rw[setRow_self w p.b C ty (0,0) hC];rfl
  refine⟨_,fk,?_⟩;cases jz:m.grp with
  |none=>
   simp only[jz,ojE]at h;subst h;have ni: ∀n,¬fI m n:=λn ⟨g,v,v',e,_⟩=>by rw[jz]at e;cases e
   refine⟨S.write hp hg bc fq hC hxs (by rw[gm];exact hle) rfl (m':=m) (by rw[St.get_put,if_pos rfl]) (λk hk=>by rw[St.get_put,if_neg hk]) ⟨rfl,rfl,rfl,λ_=>Iff.rfl,λ_=>Iff.rfl⟩ rfl
    (λk ds n _ _ gr=>⟨gr,.inl (ni n)⟩) (λk ds n g v hk gq=>?_),rfl⟩
   rw[St.get_put]at hk;split at hk
   ·cases hk;rw[jz]at gq;cases gq
   ·exact S.vers k ds n g v hk gq
  |some gv=>
   obtain⟨g,v⟩:=gv;simp only[jz]at h;cases cy:(m.tip&&Nat.ble m.lim off)with
   |true=>
    rw[cy]at h;simp only[cdt,ojE]at h;subst h;simp only[bjE,aIb,djE]at cy;refine⟨S.write hp hg bc fq hC hxs (by rw[gm];exact hle) rfl (m':=m) (by rw[St.get_put,if_pos rfl]) (λk hk=>by rw[St.get_put,if_neg hk]) ⟨rfl,rfl,rfl,λ_=>Iff.rfl,λ_=>Iff.rfl⟩ rfl
     (λk ds n _ _ gr=>⟨gr,.inr cy⟩) (λk ds n g v hk gq=>?_),rfl⟩
    rw[St.get_put]at hk;split at hk
    ·cases hk;exact S.vers id _ _ g v hg gq
    ·exact S.vers k ds n g v hk gq
   |false=>
   rw[cy]at h;simp only[cdf,ojE]at h;subst h;have hver:H.ver g=v:=(St.good_iff H m).1 bc g v jz;refine⟨S.write hp hg bc fq hC hxs (by rw[gm];exact hle) rfl (m':={m with grp:=some (g,v+1)}) (by rw[St.get_bump,St.get_put,if_pos rfl]) (λk hk=>by rw[St.get_bump,St.get_put,if_neg hk])
    ⟨rfl,rfl,rfl,λn=>?_,λn=>?_⟩ rfl (λk ds n hk hgk gr=>?_) (λk ds n g' v' hk gq=>?_),rfl⟩
   ·constructor
    ·rintro⟨g1,v1,v2,e1,e2⟩;cases e1;exact⟨_,_,_,jz,e2⟩
    ·rintro⟨g1,v1,v2,e1,e2⟩;rw[jz]at e1;cases e1;exact⟨_,_,_,rfl,e2⟩
   ·constructor
    ·rintro⟨g1,v1,v2,e1,e2⟩;cases e2;exact⟨_,_,_,e1,jz⟩
    ·rintro⟨g1,v1,v2,e1,e2⟩;rw[jz]at e2;cases e2;exact⟨_,_,_,e1,rfl⟩
   ·rw[St.good_iff]at gr;have nx: ∀v',n.grp≠some (g,v'):=by
     intro v' e;have h1:=gr g v' e;rw[St.ver_bump,if_pos rfl]at h1;have h2:=S.vers k ds n g v' hgk e;omega
    refine⟨(St.good_iff H n).2 λg' v' e=>?_,.inl ?_⟩
    ·have h1:=gr g' v' e;rw[St.ver_bump]at h1;split at h1
     ·rename_i eg;subst eg;exact absurd e (nx v')
     ·exact h1
    ·rintro⟨g1,v1,v2,e1,e2⟩;rw[jz]at e1;cases e1;exact nx v2 e2
   ·rw[St.get_bump,St.get_put]at hk;rw[St.ver_bump];split at hk
    ·cases hk;cases gq;rw[if_pos rfl];exact nlR _
    ·have:=S.vers k ds n g' v' hk gq;split
     ·rename_i eg;subst eg;omega
     ·exact this
def VRL.modify{xs us:List Value}(r:VRL Y xs us){x u:Value}(h:VR Y x u)(n:Nat):VRL Y (xs.modify n λ_=>x) (us.modify n λ_=>u):=by
 refine⟨by simp[r.1],λi y v hy hv=>?_⟩
 rw[List.getElem?_modify]at hy hv;by_cases e:n=i
 ·subst e;simp only[if_true,Option.map_eq_map,mjE]at hy hv;obtain⟨_,_,rfl⟩:=hy;obtain⟨_,_,rfl⟩:=hv;exact h
 ·simp only[if_neg e,id_map]at hy hv;exact r.2 i y v (by simpa using hy) (by simpa using hv)
end
end Go.AI
