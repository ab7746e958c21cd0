import Derived.Test.YtjapdpcodgaoaaaGreatDoorKg
import Derived.RangeFuncCalls
import Derived.RangeFuncBox
import Derived.LoopNIn
import Derived.Shelf.RegionOpen
open Option renaming some->aa,none->ae
open Bool renaming true->ah,false->aj
open Go renaming Value->av,Program->az,Operand->a8,World->ib,Oper->ic
open Go.Proofs.Tryz renaming prog->f4
open Nat renaming le_add_right->iq
open Array renaming getElem?_eq_some_iff->oq,getD_eq_getD_getElem?->iz,getElem?_eq_some_iff->oq
set_option linter.all false
namespace Go.Rf
open Go.AI Go.Proofs
section
variable{w0:W0}{P:az}{Y:Mp}{H:St}{w:ib}
def wO(w0:W0)(O:Nat->f9 Obj):W0:={w0 with O:=O}
def JC(S:Sim w0 P Y H w){O:Nat->f9 Obj}(h: ∀k o,O k=aa o->w.heap[k]?=aa o/\∀id p,Y id=aa p->p.b≠k):Sim (wO w0 O) P Y H w:=
 ⟨⟨S.kept.toKept,h,S.kept.bnd⟩,S.dom,S.glob,λid p cs m h1 h2 h3=>by
  obtain⟨a,b,c,d,e⟩:=S.row id p cs m h1 h2 h3;exact⟨a,b,c,d,e⟩,λid p es h1 h2=>by
  obtain⟨a,b⟩:=S.map id p es h1 h2;exact⟨a,b⟩,S.off,S.tip,S.maps,S.vers,S.lim⟩
def lS(O:Nat->f9 Obj)(k:Nat)(o:Obj):Nat->f9 Obj:=λj=>if j=k then aa o else O j
def qC{O:Nat->f9 Obj}(S:Sim (wO w0 O) P Y H w){k:Nat}{o:Obj}(h:w.heap[k]?=aa o)(hk: ∀id p,Y id=aa p->p.b≠k):Sim (wO w0 (lS O k o)) P Y H w:=by
 have:=JC (w0:=wO w0 O) S (O:=lS O k o) (λj o' hj=>by
  unfold lS at hj;split at hj
  .rename_i e;subst e;cases hj;exact⟨h,hk⟩
  .exact S.kept.oth j o' hj)
 exact this
def yY{O O':Nat->f9 Obj}(S:Sim (wO w0 O) P Y H w)(h: ∀k o,O' k=aa o->O k=aa o):Sim (wO w0 O') P Y H w:=
 JC (w0:=wO w0 O) S (λk o hk=>S.kept.oth k o (h k o hk))
def sO(S:Sim w0 P Y H w){o:Obj}(ho: ∀C t fr,o= .cells C t fr->fr=(0,0)):Sim w0 P Y H (w.alloc o):=by
 have hp: ∀k,k<w.heap.size->(w.alloc o).heap[k]?=w.heap[k]?:=λk hk=>sW hk
 have hs:=S.kept.size;refine⟨⟨⟨S.kept.os,S.kept.output,?_,λk hk=>(hp k (by omega)).trans (S.kept.old k hk)⟩,λk o' hk=>?_,λid p h=>?_⟩,S.dom,S.glob,λid p cs m h1 h2 h3=>?_,λid p es h1 h2=>?_,S.off,S.tip,S.maps,S.vers,S.lim⟩
 .show _<=(w.heap.push o).size;rw[Array.size_push];omega
 .have h1:=S.kept.oth k o' hk;exact⟨(hp k (oq.1 h1.1).1).trans h1.1,h1.2⟩
 .have:=S.kept.bnd id p h;show _<(w.heap.push o).size;rw[Array.size_push];omega
 .obtain⟨⟨C,t,fr,r1,r2,r3⟩,r4,r5,r6,r7⟩:=S.row id p cs m h1 h2 h3;exact⟨⟨C,t,fr,(hp p.b (S.kept.bnd id p h1)).trans r1,r2,r3⟩,r4,r5,r6,λhw C1 t1 fr1 e1=>r7 hw C1 t1 fr1 ((hp p.b (S.kept.bnd id p h1)).symm.trans e1)⟩
 .obtain⟨⟨ES,c,r1,r2⟩,r3⟩:=S.map id p es h1 h2;exact⟨⟨ES,c,(hp p.b (S.kept.bnd id p h1)).trans r1,r2⟩,r3⟩
def Tv{O:Nat->f9 Obj}(S:Sim (wO w0 O) P Y H w){k:Nat}{o:Obj}(hk:w0.heap.size<=k)(hO: ∀o',O k=aa o'->o'=o)(hlt:k<w.heap.size)(hμ: ∀id p,Y id=aa p->p.b≠k)(ho: ∀C t fr,o= .cells C t fr->fr=(0,0)):
    Sim (wO w0 O) P Y H (w.putObj k o):=by
 have hp: ∀j,j≠k->(w.putObj k o).heap[j]?=w.heap[j]?:=λj hj=>World.putObj_heap_other hj
 have bu:(w.putObj k o).heap.size=w.heap.size:=World.putObj_size;have hs:=S.kept.size;refine⟨⟨⟨S.kept.os,S.kept.output,by rw[bu];exact hs,λj hj=>(hp j (by have:j<w0.heap.size:=hj;omega)).trans (S.kept.old j hj)⟩,λj o' hj=>?_,λid p h=>by rw[bu];exact S.kept.bnd id p h⟩,S.dom,S.glob,λid p cs m h1 h2 h3=>?_,λid p es h1 h2=>?_,S.off,S.tip,S.maps,S.vers,S.lim⟩
 .by_cases e:j=k
  .subst e;have:=hO o' hj;subst this;exact⟨World.putObj_heap_same hlt,hμ⟩
  .have h1:=S.kept.oth j o' hj;exact⟨(hp j e).trans h1.1,h1.2⟩
 .obtain⟨⟨C,t,fr,r1,r2,r3⟩,r4,r5,r6,r7⟩:=S.row id p cs m h1 h2 h3;exact⟨⟨C,t,fr,(hp p.b (hμ id p h1)).trans r1,r2,r3⟩,r4,r5,r6,λhw C1 t1 fr1 e1=>r7 hw C1 t1 fr1 ((hp p.b (hμ id p h1)).symm.trans e1)⟩
 .obtain⟨⟨ES,c,r1,r2⟩,r3⟩:=S.map id p es h1 h2;exact⟨⟨ES,c,(hp p.b (hμ id p h1)).trans r1,r2⟩,r3⟩
def QG(S:Sim w0 P Y H w):Sim w0 P Y H w.drew:=S.drawn _
def tM(S:Sim w0 P Y H w): ∀id p,Y id=aa p->p.b≠w.heap.size:=λid p h e=>by
 have:=S.kept.bnd id p h;omega
end
def LV{l:au av}(h:l.length=11): ∃x0 x1 x2 x3 x4 x5 x6 x7 x8 x9 x10,l=[x0,x1,x2,x3,x4,x5,x6,x7,x8,x9,x10]:=by
 match l,h with
 |[x0,x1,x2,x3,x4,x5,x6,x7,x8,x9,x10],_=>exact⟨x0,x1,x2,x3,x4,x5,x6,x7,x8,x9,x10,rfl⟩
def bFP{v:av}(h:v.cells.size=11): ∃l:au av,v= .agg l.toArray/\l.length=11:=by
 cases v with
 |agg cs=>exact⟨cs.toList,rfl,by simpa [Value.cells]using h⟩
 |_=>simp[Value.cells]at h
def aEr{Y:Mp}{l:au av}{v':av}(r:VR Y (.agg l.toArray) v'): ∃l':au av,v'= .agg l'.toArray/\VRL Y l l':=by
 obtain⟨us,rfl,h⟩:=r.agg_inv;exact⟨us.toList,rfl,by simpa using h⟩
def aGE{v:av}(h:one v=ah):v.oneCell'=ah:=by cases v<;>first|rfl|cases h
def eD{v:av}(h:one v=ah)(P:az): ∀(a:Addr) (m:Mode) (w:ib),(store a v m).run P w=stored P w a v m:=λa m w=>run_store P w a v m (aGE h)
def dR{w:ib}{b i:Nat}{C:Array av}{t:TypeId}{fr:Nat×Nat}{v:av}(h:w.heap[b]?=aa (.cells C t fr))(hv:C[i]?=aa v):w.cell? ⟨b,i,ae⟩=aa v:=by
 unfold World.cell?;rw[h];simpa using hv
end Go.Rf
namespace Go.Rf
open Go.AI Go.Proofs Go.RowKit
noncomputable def parts:Code×Code:=match Tryz.f39.body with
 |some (.seq _ (.seq _ (.seq _ (.seq (.seq _ (.block _ (.rangeFunc _ _ a b))) _))))=>(a,b)
 |_=>(.skip,.skip)
noncomputable def Ak(fn:FuncId)(ts:Array av)(D:Nat)(st:LoopState)(pe:f9 Code):Loop:={state:=st,pending:=pe,fn:=fn,tmps:=ts,params:= #[62],assign:=parts.1,body:=parts.2,defers:=D}
def K3{F:Fence}{n:Nat}{P:az}{ops:Array ic}{Q:Exit->Act->ib->Prop}{rest:au ic}{o:ic}{a:Act}{w w':ib}{v:av}{l:Nat}(hF:F.round=aa l)(hw: ∀f,F.fn f)(hd: ∀c,o.op≠ .defer c)(hg:o.guard=ae)
    (h:(execOp a.eval o).run P w= .ok (.value v) w') (k:wpListIn F n P ops Q rest (a.put o.dst v) w'):wpListIn F n P ops Q (o::rest) a w:=by
 refine wpListIn_plain hg λK hK=>?_
 unfold Oper.wpIn;rw[hF,Oper.semAt_some l _ _ hd];refine⟨λf _=>hw f,?_⟩
 rw[h,Oper.uponIn_value];exact hK _ _ k
def aNP{F:Fence}{n:Nat}{P:az}{ops:Array ic}{Q:Exit->Act->ib->Prop}{rest:au ic}{o:ic}{a:Act}{w w':ib}{l:Nat}(hF:F.round=aa l)(hw: ∀f,F.fn f)(hd: ∀c,o.op≠ .defer c)(hg:o.guard=ae)
    (h:(execOp a.eval o).run P w= .ok .skip w') (k:wpListIn F n P ops Q rest (a.put o.dst undef) w'):wpListIn F n P ops Q (o::rest) a w:=by
 refine wpListIn_plain hg λK hK=>?_
 unfold Oper.wpIn;rw[hF,Oper.semAt_some l _ _ hd];refine⟨λf _=>hw f,?_⟩
 rw[h,Oper.uponIn_skip];exact hK _ _ k
def bHn{p:Tmp}{v:av}{ts:Array av}:(#[p].zip #[v]).foldl (λtmps (t,a)=>tmps.setIfInBounds t a) ts=ts.setIfInBounds p v:=by simp[Array.zip]
def fr(ts:Array av):Act:={tmps:=ts,defers:=[]}
def jS(ts:Array av)(i:Nat)(v:av):(fr ts).put (aa i) v=fr (ts.setIfInBounds i v):=rfl
def aPA(ts:Array av)(v:av):(fr ts).put ae v=fr ts:=rfl
def fH(ts:Array av)(j:Nat):(fr ts).eval (.tmp j)=ts.getD j undef:=rfl
def dB{ts:Array av}{i j:Nat}{v:av}(hi:i<ts.size):(ts.setIfInBounds i v).getD j undef=if i=j then v else ts.getD j undef:=by
 simp only[iz,Array.getElem?_setIfInBounds];by_cases e:i=j
 .subst e;simp[hi]
 .simp[e]
def aH8{Z:a8->av}{o:ic}{t:TypeId}{a x:a8}{β W':ib}{P:az}(ho:o.op= .store t a x)(h:(Instr.storeAt t (Z a) (Z x)).run P β= .ok () W'):(execOp Z o).run P β= .ok .skip W':=by
 unfold execOp;rw[ho];simp[h]
def pW{Z:a8->av}{o:ic}{t:TypeId}{a:a8}{β:ib}{v:av}{P:az}(ho:o.op= .load t a)(h:(Instr.loadAt t (Z a)).run P β= .ok v β):(execOp Z o).run P β= .ok (.value v) β:=by
 unfold execOp;rw[ho];simp[h]
def aZL(fn:FuncId)(ts:Array av)(D:Nat):({Ak fn ts D .ready ae with state:= .busy}:Loop)=Ak fn ts D .busy ae:=rfl
def aOg(fn:FuncId)(ts:Array av)(D:Nat):({Ak fn ts D .busy ae with state:=if(ae:f9 Code).isNone then .ready else .done,pending:=ae}:Loop)=Ak fn ts D .ready ae:=rfl
section
variable{F:Fence}{n:Nat}{P:az}{ops:Array ic}{Q:Exit->Act->ib->Prop}{rest:au ic}{o:ic}{a:Act}{β:ib}{l:Nat}{w1:W0}{Y:Mp}{H H':St}{t:TypeId}
def aNZ(hF:F.round=aa l)(hw: ∀f,F.fn f)(ho:o.op= .alloc t)(hg:o.guard=ae){b:Nat}{z:au av}(hal: ∀(Z:a8->av) (o:ic),o.op= .alloc t->gK P Z o b=aa (.pointer (aa ⟨b,0,ae⟩),.cells z boxMeta))
    (S:Sim w1 P Y H β) (hb:Y b=ae) (hbn:b<H.next)
    (k: ∀Y1 v' W1,Sim w1 P Y1 (H.put b (.cells z boxMeta)) W1->VR Y1 (.pointer (aa ⟨b,0,ae⟩)) v'->(∀k p,Y k=aa p->Y1 k=aa p)->(∀k,k≠b->Y1 k=Y k)->wpListIn F n P ops Q rest (a.put o.dst v') W1):wpListIn F n P ops Q (o::rest) a β:=by
 obtain⟨v',Ob,p,h1,hbk,h0,hN,hv⟩:=Kx (Y:=Y) (P:=P) (Z:=λ_=>undef) (Z':=a.eval) (o:=o) β (λx hx=>by simp[ho,Op.operands]at hx) (hal _ _ ho)
 refine K3 hF hw (λc e=>by rw[ho]at e;cases e) hg h1 ?_
 exact k _ _ _ ((S.put_new hb (λcs m g v e e2=>by cases e;cases e2)).alloc hb hbn (by rw[St.get_put,bJ rfl]) hN hbk h0) (hv _ (kV _ _ _)) (mC p hb) (λk hk=>jM hk)
def ZZ(hF:F.round=aa l)(hw: ∀f,F.fn f){p x:a8}{vp vx:av}(ho:o.op= .store t p x)(hg:o.guard=ae)(S:Sim w1 P Y H β)(r1:VR Y vp (a.eval p))(r2:VR Y vx (a.eval x))(h:jU P H t vp vx=aa H')
    (k: ∀W1,Sim w1 P Y H' W1->H'.next=H.next->wpListIn F n P ops Q rest (a.put o.dst undef) W1):wpListIn F n P ops Q (o::rest) a β:=by
 obtain⟨w',h1,h2,h3⟩:=Ks S r1 r2 h;exact aNP hF hw (λc e=>by rw[ho]at e;cases e) hg (aH8 ho h1) (k w' h2 h3)
def aE1(hF:F.round=aa l)(hw: ∀f,F.fn f){p:a8}{vp v:av}(ho:o.op= .load t p)(hg:o.guard=ae)(S:Sim w1 P Y H β)(r1:VR Y vp (a.eval p))(h:iM P H t vp=aa v)
    (k: ∀v',VR Y v v'->wpListIn F n P ops Q rest (a.put o.dst v') β):wpListIn F n P ops Q (o::rest) a β:=by
 obtain⟨v',h1,h2⟩:=yJ S r1 h;exact K3 hF hw (λc e=>by rw[ho]at e;cases e) hg (pW ho h1) (k v' h2)
def bIb(hF:F.round=aa l)(hw: ∀f,F.fn f){x:a8}{f:Nat}{vx v:av}(ho:o.op= .fieldAddr t x f)(hg:o.guard=ae)(r1:VR Y vx (a.eval x))(h:gZ P t vx f=aa v)
    (k: ∀v',VR Y v v'->wpListIn F n P ops Q rest (a.put o.dst v') β):wpListIn F n P ops Q (o::rest) a β:=by
 obtain⟨v',h1,h2⟩:=Cj (Y:=Y) (P:=P) (Z:=λ_=>vx) (Z':=a.eval) (o:=o) (v:=v) (λy hy=>by
  rw[ho]at hy;have:y=x:=by simpa [Op.operands]using hy
  subst this;exact r1) (by unfold gN;rw[ho];exact h)
 exact K3 hF hw (λc e=>by rw[ho]at e;cases e) hg (gT h1 β) (k v' h2)
set_option maxRecDepth 20000 in
def a8o(hF:F.round=aa l)(hw: ∀f,F.fn f){x y:a8}{vx vy v:av}(fw:x≠y)(ho:o.op= .binOp .and 74 x y 74)(hg:o.guard=ae)(r1:VR Y vx (a.eval x))(r2:VR Y vy (a.eval y))(h:a5q vx vy=aa v)
    (k: ∀v',VR Y v v'->wpListIn F n f4 ops Q rest (a.put o.dst v') β):wpListIn F n f4 ops Q (o::rest) a β:=by
 have hd:=(inferInstance:DecidableEq Nat);obtain⟨Z,q1,q2⟩: ∃Z:a8->av,Z x=vx/\Z y=vy:=by
  classical exact⟨λz=>if z=x then vx else vy,bJ rfl,bI (Ne.symm fw)⟩
 obtain⟨v',h1,h2⟩:=Cj (Y:=Y) (P:=f4) (Z:=Z) (Z':=a.eval) (o:=o) (v:=v) (λz hz=>by
  rw[ho]at hz;have:z=x∨z=y:=by simpa [Op.operands]using hz
  rcases this with rfl|rfl
  .rw[q1];exact r1
  .rw[q2];exact r2) (by
  unfold gN;rw[ho];simp only[q1,q2];unfold a5q gN at h;exact h)
 exact K3 hF hw (λc e=>by rw[ho]at e;cases e) hg (gT h1 β) (k v' h2)
end
def GD(O:Nat->f9 Obj)(k:Nat):Nat->f9 Obj:=λj=>if j=k then ae else O j
def aQQ{O:Nat->f9 Obj}{k:Nat}: ∀j o,GD O k j=aa o->O j=aa o:=λj o h=>by
 unfold GD at h;split at h
 .cases h
 .exact h
def Bt{w0:W0}{P:az}{O:Nat->f9 Obj}{Y:Mp}{H:St}{w:ib}{k:Nat}{o o':Obj}(S:Sim (wO w0 O) P Y H w)(hk:O k=aa o)(hk0:w0.heap.size<=k)(ho: ∀C t fr,o'= .cells C t fr->fr=(0,0)):Sim (wO w0 (lS (GD O k) k o')) P Y H (w.putObj k o'):=by
 have h1:=S.kept.oth k o hk;have hlt:=(oq.1 h1.1).1;have S1:=yY (O':=GD O k) S aQQ;have S2:=Tv S1 hk0 (λo' h=>by unfold GD at h;rw[bJ rfl]at h;cases h) hlt h1.2 ho
 exact qC S2 (World.putObj_heap_same hlt) h1.2
def Ai(O:Nat->f9 Obj)(k:Nat)(o:Obj):lS O k o k=aa o:=by unfold lS;rw[bJ rfl]
def aDO{O:Nat->f9 Obj}{k:Nat}{o o':Obj}(hk:O k=aa o):lS (GD (lS (GD O k) k o') k) k o=O:=by
 funext j;unfold lS GD;by_cases e:j=k
 .subst e;simp[hk]
 .simp[e]
set_option maxHeartbeats 1000000 in
set_option maxRecDepth 20000 in
def aFh{n:Nat}{fn:FuncId}{w0:W0}{O:Nat->f9 Obj}{Y:Mp}{H2 H' H4:St}{β:ib}{L D b:Nat}{ts:Array av}{vo x y s s2 l g fv fv':av}{z:au av}(S:Sim (wO w0 O) f4 Y H2 β)(hb:Y b=ae)(hbn:b<H2.next)(fy:68<=ts.size)
    (hL:O L=aa (.loop (Ak fn ts D .ready ae))) (hL0:w0.heap.size<=L) (hvo:VR Y vo (ts.getD 5 undef)) (E:bOS b H2 H' s l g vo fv z H4 x s2 y) (hfv:VR Y fv fv'):
    RoundIn Fence.wide n f4 L fn ((#[62].zip #[fv']).foldl (λtmps (t,a)=>tmps.setIfInBounds t a) ts) parts.1 parts.2 β λe W'=>e= .returned (.bool ah)/\∃Y',Sim (wO w0 O) f4 Y' H' W'/\(∀k p,Y k=aa p->Y' k=aa p)/\(∀k,k≠b->Y' k=Y k)/\H'.next=H2.next:=by
 rw[bHn];refine roundIn_of_wpIn trivial ?_;show Code.wpIn (Fence.wide.inRound L) n f4 parts.1 _ (fr (ts.setIfInBounds 62 fv')) β
 conv=>arg 4;unfold parts;dsimp only[Tryz.f39]
 refine wpIn_region_lit ?_;refine aNZ rfl (λ_=>trivial) rfl rfl E.al S hb hbn ?_
 intro Y1 v1 W1 S1 r1 e1 e2;simp only[jS];refine ZZ rfl (λ_=>trivial) (vp:= .pointer (aa ⟨b,0,ae⟩)) (vx:=fv) rfl rfl S1 ?_ ?_ E.st ?_
 .rw[fH,dB (by simp;omega),bJ rfl];exact r1
 .rw[fH,dB (by simp;omega),bI (by omega),dB (by omega),bJ rfl];exact hfv.mono' e1
 intro W2 S2 n2;simp only[aPA];refine wpListIn_nil ?_;have hl:=(S2.kept.oth L _ hL).1;refine⟨_,run_beginRound hl rfl,?_⟩;rw[aZL];have S3:=Bt S2 hL hL0 (o':= .loop (Ak fn ts D .busy ae)) (λC t fr h=>by cases h)
 generalize hW3:W2.putObj L (.loop (Ak fn ts D .busy ae))=W3 at S3;have hv5: ∀(ts':Array av),ts'.getD 5 undef=ts.getD 5 undef->VR Y1 vo (ts'.getD 5 undef):=λts' h=>by rw[h];exact hvo.mono' e1
 conv=>arg 4;unfold parts;dsimp only[Tryz.f39]
 refine wpIn_block ?_;refine wpIn_region_lit ?_;refine aE1 rfl (λ_=>trivial) (vp:=vo) rfl rfl S3 ?_ E.ld ?_
 .rw[fH];refine hv5 _ ?_;rw[dB (by simp;omega),bI (by omega),dB (by omega),bI (by omega)]
 intro x' rx;simp only[jS];refine bIb (Y:=Y1) rfl (λ_=>trivial) (vx:= .pointer (aa ⟨b,0,ae⟩)) (v:= .pointer (aa ⟨b,0,ae⟩)) rfl rfl ?_ ?_ ?_
 .rw[fH,dB (by simp;omega),bI (by omega),dB (by simp;omega),bJ rfl];exact r1
 .unfold gZ;rw[Tryz.underlying143];have e2:iN f4 74=aa 1:=by kernel_rfl
  simp[e2];rfl
 intro p' rp;simp only[jS];refine aE1 rfl (λ_=>trivial) (vp:= .pointer (aa ⟨b,0,ae⟩)) rfl rfl S3 ?_ E.ls ?_
 .rw[fH,dB (by simp;omega),bJ rfl];exact rp
 intro s2' rs2;simp only[jS];refine a8o (Y:=Y1) rfl (λ_=>trivial) (vx:=x) (vy:=s2) (v:=y) (λh=>by cases h) rfl rfl ?_ ?_ E.an ?_
 .rw[fH,dB (by simp;omega),bI (by omega),dB (by simp;omega),bI (by omega),dB (by simp;omega),bJ rfl];exact rx
 .rw[fH,dB (by simp;omega),bJ rfl];exact rs2
 intro y' ry;simp only[jS];refine ZZ rfl (λ_=>trivial) (vp:=vo) (vx:=y) rfl rfl S3 ?_ ?_ E.so ?_
 .rw[fH];refine hv5 _ ?_;rw[dB (by simp;omega),bI (by omega),dB (by simp;omega),bI (by omega),dB (by simp;omega),bI (by omega),dB (by simp;omega),bI (by omega),dB (by simp;omega),bI (by omega),dB (by omega),bI (by omega)]
 .rw[fH,dB (by simp;omega),bJ rfl];exact ry
 intro W4 S4 n4;refine wpListIn_nil ?_;simp only[Exit.inBlock,roundPost];have hl4:=(S4.kept.oth L _ (Ai _ _ _)).1;refine⟨_,_,run_endRound ae hl4,rfl,Y1,?_,e1,e2,by rw[n4,n2];rfl⟩
 rw[aOg];have S5:=Bt S4 (Ai _ _ _) hL0 (o':= .loop (Ak fn ts D .ready ae)) (λC t fr h=>by cases h)
 rw[aDO hL]at S5;exact S5
end Go.Rf
namespace Go.Rf
open Go.AI Go.Proofs Go.RowKit Go.Shelf
noncomputable section
def Fq(K:Act->ib->Prop):Exit->Act->ib->Prop
 | .normal=>K
 |_=>λ_ _=>False
noncomputable def r4C:Code:=match Tryz.f117.body with|some (.seq _ (.block _ (.loop (.seq _ (.seq _ (.seq (.block _ (.seq _ (.seq _ (.seq c _)))) _))))))=>c|_=> .skip
def r4O:Array ic:=match r4C with| .region _ ops _=>ops|_=> #[]
def sL{ts:Array av}{o:ic}{b:Bool}(hg:o.guard=aa (1,ah))(h:ts[23]?=aa (.bool b)):Region.wanted o (yielded r4O ts)=b:=by
 have e:r4O[1]?.bind (·.dst)=aa 23:=by kernel_rfl
 unfold Region.wanted;rw[hg];simp only[yielded,e,aL,h];cases b<;>rfl
def aEl{ts:Array av}{o:ic}(hg:o.guard=ae):Region.wanted o (yielded r4O ts)=ah:=by
 unfold Region.wanted;rw[hg]
def Tx{ts:Array av}{i:Nat}{v:av}(h:i<ts.size):(ts.setIfInBounds i v)[i]?=aa v:=by simp[h]
def Tw{ts:Array av}{i j:Nat}{v:av}(h:i≠j):(ts.setIfInBounds i v)[j]?=ts[j]?:=by simp[Array.getElem?_setIfInBounds,h]
section
variable{Q:Exit->Act->ib->Prop}{fuel:Nat}{listed:Array Bool}{ts:Array av}{β:ib}{i d:Nat}{o:ic}{x:a8}{n:Nat}
def Cw(hi:r4O[i]?=aa o)(hs:Region.noSelect r4O=ah)(hf:Region.free .any r4O listed i=ah)(hr:(Region.ready .any r4O listed).contains i=ah)(hQ: ∀c a w,Q (.panic c) a w↔False)
    (ho:o.dst=aa d) (hg:o.guard=aa (1,ah)) (h23:ts[23]?=aa (.bool aj)) (ha: ∀w,o.about f4 w (fr ts).eval=ae)
    (k:wpAnyIn Fence.wide n f4 .any r4O Q fuel (listed.setIfInBounds i ah) (fr (ts.setIfInBounds d undef)) β):wpAnyIn Fence.wide n f4 .any r4O Q (fuel+1) listed (fr ts) β:=by
 refine wpAnyIn_take (i:=i) (v:=undef) rfl hi hs hf hr (λc a w h=>((hQ c _ w).1 h).elim) ⟨Or.inr ⟨sL hg h23,rfl⟩,ha⟩ ?_
 rw[ho,jS];exact k
def aAl(hi:r4O[i]?=aa o)(hr:Region.ready .any r4O listed=[i])(ho:o.dst=aa d)(hg:o.guard=aa (1,ah))(h23:ts[23]?=aa (.bool aj))
    (k:wpAnyIn Fence.wide n f4 .any r4O Q fuel (listed.setIfInBounds i ah) (fr (ts.setIfInBounds d undef)) β):wpAnyIn Fence.wide n f4 .any r4O Q (fuel+1) listed (fr ts) β:=by
 refine wpAnyIn_ready hr (by simp) (AllReadyIn.cons hi (λK' hK'=>?_) AllReadyIn.nil)
 rw[bI (by rw[show Region.wanted o (yielded r4O (fr ts).tmps)=aj from sL hg h23];decide)]
 refine⟨λ_ _=>trivial,hK' _ _ ?_⟩
 rw[ho,jS];exact k
def Ay{v:av}(hi:r4O[i]?=aa o)(hs:Region.noSelect r4O=ah)(hf:Region.free .any r4O listed i=ah)(hr:(Region.ready .any r4O listed).contains i=ah)(hQ: ∀c a w,Q (.panic c) a w↔False)
    (ho:o.dst=aa d) (hg:o.guard=ae∨(o.guard=aa (1,ah)/\ts[23]?=aa (.bool ah))) (ha: ∀w,o.about f4 w (fr ts).eval=ae) (hv: ∀w,(execOp (fr ts).eval o).run f4 w= .ok (.value v) w)
    (k:wpAnyIn Fence.wide n f4 .any r4O Q fuel (listed.setIfInBounds i ah) (fr (ts.setIfInBounds d v)) β):wpAnyIn Fence.wide n f4 .any r4O Q (fuel+1) listed (fr ts) β:=by
 refine wpAnyIn_take (i:=i) (v:=v) rfl hi hs hf hr (λc a w h=>((hQ c _ w).1 h).elim) ⟨Or.inl ⟨?_,hv⟩,ha⟩ ?_
 .rcases hg with hg|⟨hg,h⟩
  .exact aEl hg
  .exact sL hg h
 .rw[ho,jS];exact k
end
def uS{Z:a8->av}{o:ic}{x:a8}(ho:o.op= .move x)(w:ib):(execOp Z o).run f4 w= .ok (.value (Z x)) w:=by
 unfold execOp;rw[ho];rfl
def Q8{Z:a8->av}{o:ic}{x y z:a8}{b:Bool}(ho:o.op= .pick x y z)(hx:Z x= .bool b)(w:ib):(execOp Z o).run f4 w= .ok (.value (if b then Z y else Z z)) w:=by
 unfold execOp;rw[ho];simp only[hx];cases b<;>rfl
def OB{ts:Array av}{b:Bool}(h:ts[23]?=aa (.bool b)){d:Nat}{v:av}(hd:d≠23):(ts.setIfInBounds d v)[23]?=aa (.bool b):=by rw[Tw hd];exact h
set_option maxRecDepth 100000 in
def aFo{K:Act->ib->Prop}{ts:Array av}{β:ib}(bu:ts.size=34)(h8:ts.getD 8 undef= .bool aj)
    (h: ∀ts':Array av,ts'.size=34->(∀j,j<22->ts'.getD j undef=ts.getD j undef)->ts'.getD 32 undef= .bool aj->K (fr ts') β.drew):r4C.wpIn Fence.wide 2 f4 (Fq K) (fr ts) β:=by
 have e:r4C= .region 4 r4O ah:=by kernel_rfl
 rw[e];refine wpIn_region_any (by kernel_rfl) ?_
 change wpAnyIn _ _ _ _ _ _ _ _ _ β.drew;have hQ: ∀c a w,Fq K (.panic c) a w↔False:=λ_ _ _=>Iff.rfl
 have df:Region.noSelect r4O=ah:=by kernel_rfl
 have hn:r4O.size=11:=by kernel_rfl
 rw[hn];refine Ay (i:=0) rfl df (by kernel_rfl) (by kernel_rfl) hQ rfl (.inl rfl) (λ_=>rfl) (uS rfl) ?_
 refine Ay (i:=1) rfl df (by kernel_rfl) (by kernel_rfl) hQ rfl (.inl rfl) (λ_=>rfl) (uS rfl) ?_
 have a4u:(fr (ts.setIfInBounds 22 ((fr ts).eval (.tmp 8)))).eval (.tmp 22)= .bool aj:=by rw[fH,dB (by omega),bJ rfl,fH];exact h8
 rw[a4u];generalize hg:(ts.setIfInBounds 22 ((fr ts).eval (.tmp 8))).setIfInBounds 23 (.bool aj)=t1;have sz1:t1.size=34:=by rw[<-hg];simp[bu]
 have h23:t1[23]?=aa (.bool aj):=by rw[<-hg];exact Tx (by simp[bu])
 have lo1: ∀j,j<22->t1.getD j undef=ts.getD j undef:=λj hj=>by rw[<-hg,dB (by simp[bu]),bI (by omega),dB (by omega),bI (by omega)]
 clear hg a4u;have g2:t1[23]?=aa (.bool aj):=h23;refine Cw (i:=2) rfl df (by kernel_rfl) (by kernel_rfl) hQ rfl rfl g2 (λ_=>rfl) ?_
 generalize hx3:t1.setIfInBounds 24 undef=x3;have g3:x3[23]?=aa (.bool aj):=by rw[<-hx3];exact OB g2 (by omega)
 refine Cw (i:=3) rfl df (by kernel_rfl) (by kernel_rfl) hQ rfl rfl g3 (λ_=>rfl) ?_
 generalize hx4:x3.setIfInBounds 25 undef=x4;have g4:x4[23]?=aa (.bool aj):=by rw[<-hx4];exact OB g3 (by omega)
 refine Cw (i:=4) rfl df (by kernel_rfl) (by kernel_rfl) hQ rfl rfl g4 (λ_=>rfl) ?_
 generalize hx5:x4.setIfInBounds 26 undef=x5;have g5:x5[23]?=aa (.bool aj):=by rw[<-hx5];exact OB g4 (by omega)
 refine Cw (i:=5) rfl df (by kernel_rfl) (by kernel_rfl) hQ rfl rfl g5 (λ_=>rfl) ?_
 generalize hx6:x5.setIfInBounds 27 undef=x6;have g6:x6[23]?=aa (.bool aj):=by rw[<-hx6];exact OB g5 (by omega)
 refine aAl (i:=6) rfl (by kernel_rfl) rfl rfl g6 ?_
 generalize hx7:x6.setIfInBounds 28 undef=x7;have g7:x7[23]?=aa (.bool aj):=by rw[<-hx7];exact OB g6 (by omega)
 refine Cw (i:=7) rfl df (by kernel_rfl) (by kernel_rfl) hQ rfl rfl g7 (λ_=>rfl) ?_
 generalize hx8:x7.setIfInBounds 29 undef=x8;have g8:x8[23]?=aa (.bool aj):=by rw[<-hx8];exact OB g7 (by omega)
 refine aAl (i:=8) rfl (by kernel_rfl) rfl rfl g8 ?_
 generalize hx9:x8.setIfInBounds 30 undef=x9;have g9:x9[23]?=aa (.bool aj):=by rw[<-hx9];exact OB g8 (by omega)
 refine Cw (i:=9) rfl df (by kernel_rfl) (by kernel_rfl) hQ rfl rfl g9 (λ_=>rfl) ?_
 generalize hx10:x9.setIfInBounds 31 undef=x10;have g10:x10[23]?=aa (.bool aj):=by rw[<-hx10];exact OB g9 (by omega)
 have szx:x10.size=34:=by
  rw[<-hx10,<-hx9,<-hx8,<-hx7,<-hx6,<-hx5,<-hx4,<-hx3];simp[sz1]
 have e10:(fr x10).eval (.tmp 23)= .bool aj:=by rw[fH,iz,g10];rfl
 refine Ay (i:=10) rfl df (by kernel_rfl) (by kernel_rfl) hQ rfl (.inl rfl) (λ_=>rfl) (Q8 rfl e10) ?_
 refine wpAnyIn_done (by kernel_rfl) ?_ _
 refine h _ (by simp[szx]) (λj hj=>?_) ?_
 .rw[dB (by omega),bI (by omega),<-lo1 j hj,<-hx10,<-hx9,<-hx8,<-hx7,<-hx6,<-hx5,<-hx4,<-hx3]
  rw[dB (by simp[sz1]),bI (by omega),dB (by simp[sz1]),bI (by omega),dB (by simp[sz1]),bI (by omega),dB (by simp[sz1]),bI (by omega),dB (by simp[sz1]),bI (by omega),dB (by simp[sz1]),bI (by omega),dB (by simp[sz1]),bI (by omega),dB (by simp[sz1]),bI (by omega)]
 .rw[dB (by omega),bJ rfl];rfl
set_option maxRecDepth 100000 in
def Uj{b:Nat}{β:ib}{x0 x1 x2 x3 x4 x5 x6 x7 x8 x9 x10:av}{aNj:Nat×Nat}(h:β.heap[b]?=aa (.cells #[x0,x1,x2,x3,x4,x5,x6,x7,x8,x9,x10] 45 aNj)):(Instr.loadAt 45 (.pointer (aa ⟨b,0,ae⟩))).run f4 β= .ok (.agg #[x0,x1,x2,x3,x4,x5,x6,x7,x8,x9,x10]) β:=by
 have c0:β.cell? ⟨b,0,ae⟩=aa x0:=dR h rfl;have c1:β.cell? ⟨b,1,ae⟩=aa x1:=dR h rfl;have c2:β.cell? ⟨b,2,ae⟩=aa x2:=dR h rfl;have c3:β.cell? ⟨b,3,ae⟩=aa x3:=dR h rfl;have c4:β.cell? ⟨b,4,ae⟩=aa x4:=dR h rfl;have c5:β.cell? ⟨b,5,ae⟩=aa x5:=dR h rfl;have c6:β.cell? ⟨b,6,ae⟩=aa x6:=dR h rfl;have c7:β.cell? ⟨b,7,ae⟩=aa x7:=dR h rfl;have c8:β.cell? ⟨b,8,ae⟩=aa x8:=dR h rfl;have c9:β.cell? ⟨b,9,ae⟩=aa x9:=dR h rfl;have c10:β.cell? ⟨b,10,ae⟩=aa x10:=dR h rfl;clear h
 go_simp
section
variable{Q:Exit->Act->ib->Prop}{K':Act->ib->Prop}{ts:Array av}{β W':ib}{i d:Nat}{o:ic}{x:a8}{n:Nat}
def Rx{v:av}(ho:o.dst=aa d)(hg:o.guard=aa (1,ah))(h23:ts[23]?=aa (.bool ah))(hv:(execOp (fr ts).eval o).run f4 β= .ok (.value v) W')(k:K' (fr (ts.setIfInBounds d v)) W'):
    if Region.wanted o (yielded r4O (fr ts).tmps)=ah then Oper.wpIn Fence.wide n f4 o (fr ts) β K' Q else(∀f,o.about f4 β (fr ts).eval=aa f->Fence.wide.fn f)/\K' ((fr ts).put o.dst undef) β:=by
 rw[bJ (show Region.wanted o (yielded r4O (fr ts).tmps)=ah from sL hg h23)]
 unfold Oper.wpIn;rw[Fence.wide_round,Oper.semAt_none];refine⟨λ_ _=>trivial,?_⟩
 rw[hv,Oper.uponIn_value,ho,jS];exact k
def LM{f:FuncId}{args:Array av}(ho:o.dst=aa d)(hg:o.guard=aa (1,ah))(h23:ts[23]?=aa (.bool ah))(hv:(execOp (fr ts).eval o).run f4 β= .ok (.enter f args) W')
    (k:CallsIn Fence.wide (n-1) f4 f args W' λe w=> ∃v,e= .returned v/\K' (fr (ts.setIfInBounds d v)) w):
    if Region.wanted o (yielded r4O (fr ts).tmps)=ah then Oper.wpIn Fence.wide n f4 o (fr ts) β K' Q else(∀f,o.about f4 β (fr ts).eval=aa f->Fence.wide.fn f)/\K' ((fr ts).put o.dst undef) β:=by
 rw[bJ (show Region.wanted o (yielded r4O (fr ts).tmps)=ah from sL hg h23)]
 unfold Oper.wpIn;rw[Fence.wide_round,Oper.semAt_none];refine⟨λ_ _=>trivial,?_⟩
 rw[hv,Oper.uponIn_enter];refine⟨(λh=>(by cases h)),k.mono ?_⟩
 rintro e w ⟨v,rfl,hk⟩;show K' ((fr ts).put o.dst v) w;rw[ho,jS];exact hk
def aOW{l:Nat}{f:FuncId}{tmps:Array av}{asg bdy:Code}(ho:o.dst=aa d)(hg:o.guard=aa (1,ah))(h23:ts[23]?=aa (.bool ah))(hv:(execOp (fr ts).eval o).run f4 β= .ok (.round l f tmps asg bdy) W')
    (k:RoundIn Fence.wide (n-1) f4 l f tmps asg bdy W' λe w=> ∃v,e= .returned v/\K' (fr (ts.setIfInBounds d v)) w):
    if Region.wanted o (yielded r4O (fr ts).tmps)=ah then Oper.wpIn Fence.wide n f4 o (fr ts) β K' Q else(∀f,o.about f4 β (fr ts).eval=aa f->Fence.wide.fn f)/\K' ((fr ts).put o.dst undef) β:=by
 rw[bJ (show Region.wanted o (yielded r4O (fr ts).tmps)=ah from sL hg h23)]
 unfold Oper.wpIn;rw[Fence.wide_round,Oper.semAt_none];refine⟨λ_ _=>trivial,?_⟩
 rw[hv,Oper.uponIn_round];refine⟨(λh=>(by cases h)),k.mono ?_⟩
 rintro e w ⟨v,rfl,hk⟩;show K' ((fr ts).put o.dst v) w;rw[ho,jS];exact hk
end
def Ci{Z:a8->av}{o:ic}{c:Call}{f:FuncId}{β:ib}(ho:o.op= .call c)(hc:c.callee= .value (.func f))(hρ:Z (.func f)= .func (.func f) #[] #[])(hf: ∃fn code,Tryz.prog.funcs[f]?=aa fn/\fn.body=aa code/\(fn.name== "runtime.NumGoroutine")=aj):
    (execOp Z o).run f4 β= .ok (.enter f (c.args.map Z)) β:=by
 obtain⟨fn,code,h1,h2,h3⟩:=hf;unfold execOp;rw[ho];simp only[resolve,hc,hρ,Deferred.ofValue,Sem.run_bind,Sem.run_pure,Result.andThen_ok,invoke,callFunc,run_program,h1,h2,h3,Option.isNone_some,Bool.false_eq_true,bP];simp
def aCr{Z:a8->av}{o:ic}{c:Call}{L:Nat}{x:a8}{β:ib}{r:Result Next}(ho:o.op= .call c)(hc:c.callee= .value x)(hρ:Z x= .func (.yield L) #[] #[])(hy:(Instr.yield L (c.args.map Z)).run f4 β=r):
    (execOp Z o).run f4 β=r:=by
 unfold execOp;rw[ho];simp only[resolve,hc,hρ,Deferred.ofValue,Sem.run_bind,Sem.run_pure,Result.andThen_ok,invoke];simpa using hy
def aO1{Z:a8->av}{o:ic}{t:TypeId}{x:a8}{b:Bool}(ho:o.op= .unOp .not t x)(hx:Z x= .bool b)(w:ib):(execOp Z o).run f4 w= .ok (.value (.bool (!b))) w:=by
 unfold execOp;rw[ho];simp only[hx];rfl
def aDz{Z Z':a8->av}{o o':ic}{v:av}{t:TypeId}{x y z:a8}(ho:o.op= .build t #[(0,x),(1,y),(2,z)])(gk:o'.op= .build t #[(0,x),(1,y),(2,z)])(hx:Z x=Z' x)(hy:Z y=Z' y)(hz:Z z=Z' z)(h: ∀w,(execOp Z' o').run f4 w= .ok (.value v) w)(w:ib):(execOp Z o).run f4 w= .ok (.value v) w:=by
 have h:=h w;unfold execOp at h⊢;rw[gk]at h;rw[ho];simp only[List.map_toArray,aO,List.map_nil]at h⊢;rw[hx,hy,hz];exact h
structure R4(t0 t1:Array av)(k:Nat):Prop where
 sz:t1.size=34
 lo: ∀j,j<22->t1.getD j undef=t0.getD j undef
 g:t1[23]?=aa (.bool ah)
def R4.set{t0 t1:Array av}{k d:Nat}{v:av}(h:R4 t0 t1 k)(hd:23<d):R4 t0 (t1.setIfInBounds d v) k:=
 ⟨by simp[h.sz],λj hj=>by
  rw[iz,Tw (by omega),<-iz];exact h.lo j hj,OB h.g (by omega)⟩
def cL{ts:Array av}{i j:Nat}{v:av}(h:i≠j):(ts.setIfInBounds i v).getD j undef=ts.getD j undef:=by
 rw[iz,Tw h,<-iz]
def eX{ts:Array av}{i:Nat}{v:av}(h:i<ts.size):(ts.setIfInBounds i v).getD i undef=v:=by
 rw[iz,Tx h];rfl
abbrev aPl(o:ic):Prop:=o.op= .build 143 #[(0,.tmp 25),(1,.tmp 26),(2,.tmp 28)]
def aUK(s y g fv:av):Prop:= ∀(Z:a8->av) (o:ic),aPl o->Z (.tmp 25)=s->Z (.tmp 26)=y->Z (.tmp 28)=g->∀w,(execOp Z o).run f4 w= .ok (.value fv) w
def aBt(L:Nat)(fv:av)(R:ib->Prop)(w:ib):Prop:= ∃f tmps asg bdy,(Instr.yield L #[fv]).run f4 w= .ok (.round L f tmps asg bdy) w/\RoundIn Fence.wide 1 f4 L f tmps asg bdy w λe w'=>e= .returned (.bool ah)/\R w'
set_option maxRecDepth 100000 in
def Lf{K:Act->ib->Prop}{t0 t:Array av}{w:ib}{L:Nat}{s y g fv:av}{R:ib->Prop}(σ:R4 t0 t 0)(bEk:t.getD 24 undef= .func (.yield L) #[] #[])(bEj:t.getD 25 undef=s)(bEi:t.getD 26 undef=y)(h28:t.getD 28 undef=g)
    (hB:aUK s y g fv) (hY:aBt L fv R w) (h: ∀(ts':Array av) qf,ts'.size=34->(∀j,j<22->ts'.getD j undef=t0.getD j undef)->ts'.getD 32 undef= .bool aj->R qf->K (fr ts') qf):
    wpAnyIn Fence.wide 2 f4 .any r4O (Fq K) 4 #[ah,ah,ah,ah,ah,ah,ah,aj,aj,aj,aj] (fr t) w:=by
 have hQ: ∀c a w,Fq K (.panic c) a w↔False:=λ_ _ _=>Iff.rfl
 have df:Region.noSelect r4O=ah:=by kernel_rfl
 refine Ay (i:=7) (v:=fv) rfl df (by kernel_rfl) (by kernel_rfl) hQ rfl (.inr ⟨rfl,σ.g⟩) (λ_=>rfl) (hB _ _ rfl bEj bEi h28) ?_
 have σ7:=σ.set (d:=29) (v:=fv) (by omega)
 obtain⟨f,tmps,asg,bdy,y1,y2⟩:=hY;refine wpAnyIn_ready (rs:=[8]) (by kernel_rfl) (by simp) (AllReadyIn.cons rfl (λK1 hK1=>?_) AllReadyIn.nil)
 refine aOW (d:=30) rfl rfl σ7.g (aCr (x:= .tmp 24) (L:=L) rfl rfl ?_ ?_) (y2.mono ?_)
 .rw[fH,cL (by omega)];exact bEk
 .simp only[List.map_toArray,aO,List.map_nil];rw[fH,eX (by rw[σ.sz];omega)];exact y1
 rintro e w2 ⟨rfl,hR⟩;refine⟨_,rfl,hK1 _ _ ?_⟩;have σ8:=σ7.set (d:=30) (v:= .bool ah) (by omega)
 refine Ay (i:=9) (v:= .bool aj) rfl df (by kernel_rfl) (by kernel_rfl) hQ rfl (.inr ⟨rfl,σ8.g⟩) (λ_=>rfl) (aO1 (b:=ah) rfl ?_) ?_
 .rw[fH,eX (by rw[σ7.sz];omega)]
 have σ9:=σ8.set (d:=31) (v:= .bool aj) (by omega)
 have bOr:((t.setIfInBounds 29 fv).setIfInBounds 30 (.bool ah)).setIfInBounds 31 (.bool aj)=((t.setIfInBounds 29 fv).setIfInBounds 30 (.bool ah)).setIfInBounds 31 (.bool aj):=rfl;refine Ay (i:=10) rfl df (by kernel_rfl) (by kernel_rfl) hQ rfl (.inl rfl) (λ_=>rfl) (Q8 (b:=ah) rfl (by rw[fH,iz,σ9.g];rfl)) ?_
 refine wpAnyIn_done (by kernel_rfl) ?_ _
 have H10:=λv=>σ9.set (d:=32) (v:=v) (by omega)
 refine h _ _ (H10 _).sz (H10 _).lo ?_ hR;rw[eX (by rw[σ9.sz];omega)]
 show(fr _).eval (.tmp 31)=_;rw[fH,eX (by rw[σ8.sz];omega)]
set_option maxRecDepth 100000 in
def aOi{K:Act->ib->Prop}{ts:Array av}{β:ib}{L bX bY:Nat}{X μ s:av}{R:ib->Prop}(bu:ts.size=34)(h0:ts.getD 0 undef= .func (.yield L) #[] #[])(h5:ts.getD 5 undef= .pointer (aa ⟨bX,0,ae⟩))(h6:ts.getD 6 undef=s)
    (h7:ts.getD 7 undef= .pointer (aa ⟨bY,0,ae⟩)) (h8:ts.getD 8 undef= .bool ah)
    (hX:(Instr.loadAt 45 (.pointer (aa ⟨bX,0,ae⟩))).run f4 β.drew= .ok X β.drew) (hY:(Instr.loadAt 45 (.pointer (aa ⟨bY,0,ae⟩))).run f4 β.drew= .ok μ β.drew)
    (hN:CallsIn Fence.wide 1 f4 35 #[X] β.drew λe w'=> ∃g fv,e= .returned g/\(Instr.loadAt 45 (.pointer (aa ⟨bY,0,ae⟩))).run f4 w'= .ok μ w'/\aUK s μ g fv/\aBt L fv R w')
    (h: ∀(ts':Array av) qf,ts'.size=34->(∀j,j<22->ts'.getD j undef=ts.getD j undef)->ts'.getD 32 undef= .bool aj->R qf->K (fr ts') qf):r4C.wpIn Fence.wide 2 f4 (Fq K) (fr ts) β:=by
 have e:r4C= .region 4 r4O ah:=by kernel_rfl
 rw[e];refine wpIn_region_any (by kernel_rfl) ?_
 change wpAnyIn _ _ _ _ _ _ _ _ _ β.drew;have hQ: ∀c a w,Fq K (.panic c) a w↔False:=λ_ _ _=>Iff.rfl
 have df:Region.noSelect r4O=ah:=by kernel_rfl
 have hn:r4O.size=11:=by kernel_rfl
 have hf: ∃fn code,Tryz.prog.funcs[35]?=aa fn/\fn.body=aa code/\(fn.name== "runtime.NumGoroutine")=aj:=⟨_,_,Tryz.func35,rfl,by kernel_rfl⟩
 rw[hn];generalize β.drew=V at*;refine Ay (i:=0) rfl df (by kernel_rfl) (by kernel_rfl) hQ rfl (.inl rfl) (λ_=>rfl) (uS rfl) ?_
 refine Ay (i:=1) rfl df (by kernel_rfl) (by kernel_rfl) hQ rfl (.inl rfl) (λ_=>rfl) (uS rfl) ?_
 have a4u:(fr (ts.setIfInBounds 22 ((fr ts).eval (.tmp 8)))).eval (.tmp 22)= .bool ah:=by rw[fH,dB (by omega),bJ rfl,fH];exact h8
 rw[a4u];generalize hg:(ts.setIfInBounds 22 ((fr ts).eval (.tmp 8))).setIfInBounds 23 (.bool ah)=t1;have σ1:R4 ts t1 0:=⟨by rw[<-hg];simp[bu],λj hj=>by rw[<-hg,cL (by omega),cL (by omega)],by rw[<-hg];exact Tx (by simp[bu])⟩
 clear hg a4u;refine Ay (i:=2) rfl df (by kernel_rfl) (by kernel_rfl) hQ rfl (.inr ⟨rfl,σ1.g⟩) (λ_=>rfl) (uS rfl) ?_
 have q2:(fr t1).eval (.tmp 0)= .func (.yield L) #[] #[]:=by rw[fH,σ1.lo 0 (by omega)];exact h0
 rw[q2];have σ2:=σ1.set (d:=24) (v:= .func (.yield L) #[] #[]) (by omega)
 refine Ay (i:=3) rfl df (by kernel_rfl) (by kernel_rfl) hQ rfl (.inr ⟨rfl,σ2.g⟩) (λ_=>rfl) (uS rfl) ?_
 have q3:(fr (t1.setIfInBounds 24 (.func (.yield L) #[] #[]))).eval (.tmp 6)=s:=by rw[fH,σ2.lo 6 (by omega)];exact h6
 rw[q3];generalize hg:(t1.setIfInBounds 24 (.func (.yield L) #[] #[])).setIfInBounds 25 s=t2;have σ3:R4 ts t2 0:=by rw[<-hg];exact σ2.set (by omega)
 have p24:t2.getD 24 undef= .func (.yield L) #[] #[]:=by rw[<-hg,cL (by omega),eX (by rw[σ1.sz];omega)]
 have p25:t2.getD 25 undef=s:=by rw[<-hg,eX (by rw[σ2.sz];omega)]
 clear hg q2 q3 σ2 σ1;have a5:(fr t2).eval (.tmp 5)= .pointer (aa ⟨bX,0,ae⟩):=by rw[fH,σ3.lo 5 (by omega)];exact h5
 have a7:(fr t2).eval (.tmp 7)= .pointer (aa ⟨bY,0,ae⟩):=by rw[fH,σ3.lo 7 (by omega)];exact h7
 have l27: ∀v,(fr (t2.setIfInBounds 27 v)).eval (.tmp 7)= .pointer (aa ⟨bY,0,ae⟩):=λv=>by rw[fH,cL (by omega)];exact a7
 have l26: ∀v,(fr (t2.setIfInBounds 26 v)).eval (.tmp 5)= .pointer (aa ⟨bX,0,ae⟩):=λv=>by rw[fH,cL (by omega)];exact a5
 have n26:=λv=>σ3.set (d:=26) (v:=v) (by omega)
 have n27:=λv=>σ3.set (d:=27) (v:=v) (by omega)
 refine wpAnyIn_ready (rs:=[4,5]) (by kernel_rfl) (by simp) (AllReadyIn.cons rfl (λK1 hK1=>?_) (AllReadyIn.cons rfl (λK1 hK1=>?_) AllReadyIn.nil))
 .refine Rx (d:=26) rfl rfl σ3.g (pW rfl (by rw[a7];exact hY)) (hK1 _ _ ?_)
  refine wpAnyIn_ready (rs:=[5]) (by kernel_rfl) (by simp) (AllReadyIn.cons rfl (λK1 hK1=>?_) AllReadyIn.nil)
  refine Rx (d:=27) rfl rfl (n26 _).g (pW rfl (by rw[l26];exact hX)) (hK1 _ _ ?_)
  have σ5:=(n26 μ).set (d:=27) (v:=X) (by omega)
  refine wpAnyIn_ready (rs:=[6]) (by kernel_rfl) (by simp) (AllReadyIn.cons rfl (λK1 hK1=>?_) AllReadyIn.nil)
  refine LM (d:=28) rfl rfl σ5.g (Ci rfl rfl rfl hf) ?_;simp only[List.map_toArray,aO,List.map_nil];rw[fH,eX (by rw[(n26 μ).sz];omega)]
  refine hN.mono ?_;rintro e w' ⟨g,fv,rfl,-,hB,hY2⟩;refine⟨_,rfl,hK1 _ _ ?_⟩;have σ6:=σ5.set (d:=28) (v:=g) (by omega)
  have e9:=Lf σ6 (by rw[cL (by omega),cL (by omega),cL (by omega)];exact p24) (by rw[cL (by omega),cL (by omega),cL (by omega)];exact p25)
   (by rw[cL (by omega),cL (by omega),eX (by rw[σ3.sz];omega)]) (by rw[eX (by rw[σ5.sz];omega)]) hB hY2 h
  exact e9
 .refine Rx (d:=27) rfl rfl σ3.g (pW rfl (by rw[a5];exact hX)) (hK1 _ _ ?_)
  refine wpAnyIn_ready (rs:=[4,6]) (by kernel_rfl) (by simp) (AllReadyIn.cons rfl (λK1 hK1=>?_) (AllReadyIn.cons rfl (λK1 hK1=>?_) AllReadyIn.nil))
  .refine Rx (d:=26) rfl rfl (n27 _).g (pW rfl (by rw[l27];exact hY)) (hK1 _ _ ?_)
   have σ5:=(n27 X).set (d:=26) (v:=μ) (by omega)
   refine wpAnyIn_ready (rs:=[6]) (by kernel_rfl) (by simp) (AllReadyIn.cons rfl (λK1 hK1=>?_) AllReadyIn.nil)
   refine LM (d:=28) rfl rfl σ5.g (Ci rfl rfl rfl hf) ?_;simp only[List.map_toArray,aO,List.map_nil];rw[fH,cL (by omega),eX (by rw[σ3.sz];omega)]
   refine hN.mono ?_;rintro e w' ⟨g,fv,rfl,-,hB,hY2⟩;refine⟨_,rfl,hK1 _ _ ?_⟩;have σ6:=σ5.set (d:=28) (v:=g) (by omega)
   have e9:=Lf σ6 (by rw[cL (by omega),cL (by omega),cL (by omega)];exact p24) (by rw[cL (by omega),cL (by omega),cL (by omega)];exact p25)
    (by rw[cL (by omega),eX (by rw[(n27 X).sz];omega)]) (by rw[eX (by rw[σ5.sz];omega)]) hB hY2 h
   exact e9
  .refine LM (d:=28) rfl rfl (n27 _).g (Ci rfl rfl rfl hf) ?_;simp only[List.map_toArray,aO,List.map_nil];rw[fH,eX (by rw[σ3.sz];omega)]
   refine hN.mono ?_;rintro e w' ⟨g,fv,rfl,hY3,hB,hY2⟩;refine⟨_,rfl,hK1 _ _ ?_⟩;have σ5:=(n27 X).set (d:=28) (v:=g) (by omega)
   refine wpAnyIn_ready (rs:=[4]) (by kernel_rfl) (by simp) (AllReadyIn.cons rfl (λK1 hK1=>?_) AllReadyIn.nil)
   refine Rx (d:=26) rfl rfl σ5.g (pW rfl (by rw[fH,cL (by omega),<-fH,l27];exact hY3)) (hK1 _ _ ?_)
   have σ6:=σ5.set (d:=26) (v:=μ) (by omega)
   have e9:=Lf σ6 (by rw[cL (by omega),cL (by omega),cL (by omega)];exact p24) (by rw[cL (by omega),cL (by omega),cL (by omega)];exact p25)
    (by rw[eX (by rw[σ5.sz];omega)]) (by rw[cL (by omega),eX (by rw[(n27 X).sz];omega)]) hB hY2 h
   exact e9
attribute [local go_sem] Oper.semAt_some
noncomputable def RD:Code:=match Tryz.f117.body with|some (.seq _ (.block _ (.loop c)))=>c|_=> .skip
def a1R{l:au av}(h:l.length=34): ∃t0 t1 t2 t3 t4 t5 t6 t7 t8 t9 t10 t11 t12 t13 t14 t15 t16 t17 t18 t19 t20 t21 t22 t23 t24 t25 t26 t27 t28 t29 t30 t31 t32 t33,l=[t0,t1,t2,t3,t4,t5,t6,t7,t8,t9,t10,t11,t12,t13,t14,t15,t16,t17,t18,t19,t20,t21,t22,t23,t24,t25,t26,t27,t28,t29,t30,t31,t32,t33]:=by
 match l,h with
 |t0::t1::t2::t3::t4::t5::t6::t7::t8::t9::t10::t11::t12::t13::t14::t15::t16::t17::t18::t19::t20::t21::t22::t23::t24::t25::t26::t27::t28::t29::t30::t31::t32::t33::[],_=>exact⟨t0,t1,t2,t3,t4,t5,t6,t7,t8,t9,t10,t11,t12,t13,t14,t15,t16,t17,t18,t19,t20,t21,t22,t23,t24,t25,t26,t27,t28,t29,t30,t31,t32,t33,rfl⟩
structure Fr(L bA bU:Nat)(sl:av)(n:Nat)(i:Int)(a:Act):Prop where
 d:a.defers=[]
 sz:a.tmps.size=34
 h0:a.tmps.getD 0 undef= .func (.yield L) #[] #[]
 h1:a.tmps.getD 1 undef= .pointer (aa ⟨bA,0,ae⟩)
 h2:a.tmps.getD 2 undef= .pointer (aa ⟨bU,0,ae⟩)
 h9:a.tmps.getD 9 undef=sl
 h10:a.tmps.getD 10 undef= .int .i64 n
 h11:a.tmps.getD 11 undef= .int .i64 i
def Fr.ex{L bA bU:Nat}{sl:av}{n:Nat}{i:Int}{a:Act}(h:Fr L bA bU sl n i a): ∃j3 j4 j5 j6 j7 j8 j12 j13 j14 j15 j16 j17 j18 j19 j20 j21 j22 j23 j24 j25 j26 j27 j28 j29 j30 j31 j32 j33:av,a={tmps:= #[.func (.yield L) #[] #[],.pointer (aa ⟨bA,0,ae⟩),.pointer (aa ⟨bU,0,ae⟩),j3,j4,j5,j6,j7,j8,sl,.int .i64 n,.int .i64 i,j12,j13,j14,j15,j16,j17,j18,j19,j20,j21,j22,j23,j24,j25,j26,j27,j28,j29,j30,j31,j32,j33],defers:=[]}:=by
 obtain⟨⟨ts⟩,ds⟩:=a;obtain⟨d,sz,h0,h1,h2,h9,h10,h11⟩:=h;obtain⟨j0,j1,j2,j3,j4,j5,j6,j7,j8,j9,j10,j11,j12,j13,j14,j15,j16,j17,j18,j19,j20,j21,j22,j23,j24,j25,j26,j27,j28,j29,j30,j31,j32,j33,rfl⟩:=a1R (l:=ts) sz;cases d;refine⟨j3,j4,j5,j6,j7,j8,j12,j13,j14,j15,j16,j17,j18,j19,j20,j21,j22,j23,j24,j25,j26,j27,j28,j29,j30,j31,j32,j33,?_⟩;rw[<-h0,<-h1,<-h2,<-h9,<-h10,<-h11];rfl
structure Hd(p:Prop):Prop where
 h:p
def aIy{P:az}{call:FuncId->Array av->St->f9 (av×St)}{L:Nat}{x:a8}{a b:Code}{S:Slots}{H:St}(h:ev S x= .bool ah):eJ P call L (.cond x a b) S H=eJ P call L a S H:=by simp only[eJ,h]
def lC(ts:Array av):(fr ts).tmps=ts:=rfl
def uD{n:Nat}{P:az}{ops:Array ic}{Q:Exit->Act->ib->Prop}{rest:au ic}{o:ic}{a:Act}{w w':ib}{v:av}(hg:o.guard=ae)
    (h:(execOp a.eval o).run P w= .ok (.value v) w') (k:wpListIn Fence.wide n P ops Q rest (a.put o.dst v) w'):wpListIn Fence.wide n P ops Q (o::rest) a w:=by
 refine wpListIn_plain hg λK hK=>?_
 unfold Oper.wpIn;rw[Fence.wide_round,Oper.semAt_none];refine⟨λf _=>trivial,?_⟩
 rw[h,Oper.uponIn_value];exact hK _ _ k
def aRc{Z:a8->av}{o:ic}{x:a8}{i:Int}{t2:TypeId}(ho:o.op= .binOp .add 3 x (.const (.int .i64 1)) t2)(hx:Z x= .int .i64 i)(hc:Z (.const (.int .i64 1))= .int .i64 1)(w:ib):(execOp Z o).run f4 w= .ok (.value (.int .i64 (IntKind.i64.wrap (i+1)))) w:=by
 unfold execOp;rw[ho];simp only[hx,hc];rfl
def slc_inv{Y:Mp}{id off n c c':Nat}{qz:f9 Addr}(h:VR Y (.slice (aa ⟨id,off,ae⟩) n c) (.slice qz n c')): ∃p:AI.Place,Y id=aa p/\qz=aa ⟨p.b,p.o+off,ae⟩:=by
 cases h with
 |same _ h=>simp[bZ]at h
 |slc _ _ _ _ _ p hp=>exact⟨p,hp,rfl⟩
def mO{w1:W0}{Y:Mp}{H:St}{β:ib}{id o:Nat}{p:AI.Place}{l:au av}(ρ:Sim w1 f4 Y H β)(hp:Y id=aa p)(h:iM f4 H 45 (.pointer (aa ⟨id,o,ae⟩))=aa (.agg l.toArray)):
    ∃l',VRL Y l l'/\∀k v,l'[k]?=aa v->β.cell? ⟨p.b,p.o+o+k,ae⟩=aa v:=by
 unfold iM at h;have e1:mB f4 45=aa ah:=by kernel_rfl
 have e2:iN f4 45=aa 11:=by kernel_rfl
 rw[e1,e2]at h;simp only at h;split at h
 .rename_i cs m e;simp only[aF]at h;obtain⟨l0,hc,he⟩:=h;have:l0=l:=by simpa using he
  subst this;unfold cut at hc;simp only[cond_eq_ite]at hc;split at hc
  .rename_i hh;cases hc;have hh:=aE hh;have bc:H.get id=aa (.cells cs m)/\H.good m=ah:=by
    unfold St.row at e;split at e
    .rename_i cq m' e3;simp only[cond_eq_ite]at e;split at e
     .rename_i hg;cases e;exact⟨e3,hg⟩
     .cases e
    .cases e
   obtain⟨⟨C,t,aNj,r1,r2,r3⟩,r4,r5,r6⟩:=ρ.row id p cs m hp bc.1 bc.2;have key: ∀(n:Nat) (d:au av),d=(cs.drop o).take n->∃l',VRL Y d l'/\∀k v,l'[k]?=aa v->C[p.o+o+k]?=aa v:=by
    intro n;induction n with
    |zero=>intro d hd;subst hd;exact⟨[],by rw[List.take_zero];exact .nil,λk v h=>by simp at h⟩
    |succ n ihn=>
     intro d hd;obtain⟨l1,q1,q2⟩:=ihn _ rfl;rcases Nat.lt_or_ge n (cs.drop o).length with hlt|hge
     .have e4:(cs.drop o)[n]?=aa ((cs.drop o)[n]'hlt):=aV hlt;obtain⟨u,hu,hr⟩:=r2 (o+n) ((cs.drop o)[n]'hlt) (by rw[<-List.getElem?_drop];exact e4)
      refine⟨l1++ [u],?_,λk v hk=>?_⟩
      .subst hd;rw[List.take_add_one,e4];exact q1.append (.cons hr .nil)
      .rw[List.getElem?_append]at hk;have hl1:l1.length=n:=by rw[<-q1.1,List.length_take];omega
       split at hk
       .exact q2 k v hk
       .rename_i hk2;rw[List.getElem?_singleton]at hk;split at hk
        .rename_i hk3;cases hk;rw[show p.o+o+k=p.o+(o+n) by omega];exact hu
        .cases hk
     .refine⟨l1,?_,q2⟩;subst hd;rw[List.take_of_length_le (by omega)]
      rw[List.take_of_length_le hge]at q1;exact q1
   obtain⟨l',q1,q2⟩:=key 11 _ rfl;exact⟨l',q1,λk v hk=>dR r1 (q2 k v hk)⟩
  .cases hc
 .cases h
set_option maxHeartbeats 4000000 in
set_option maxRecDepth 100000 in
def aO6{w0:W0}{O:Nat->f9 Obj}{call:FuncId->Array av->St->f9 (av×St)}(hcall: ∀w1:W0,w1.toWorld=w0.toWorld->iV w1 f4 call)
    {L D bA bU L0 n c c':Nat} {fn:FuncId} {ts:Array av} {vo uv:av} {sa qz:f9 Addr} {Q:Exit->Act->ib->Prop} {fl:Fl} {S':Slots} {H':St} {u0 u1 u2 u3 u4 u5 u6 u7 u8 u9 u10:av} {frU:Nat×Nat}
    (fy:68<=ts.size) (hL:O L=aa (.loop (Ak fn ts D .ready ae))) (hL0:w0.heap.size<=L) (hU:O bU=aa (.cells #[u0,u1,u2,u3,u4,u5,u6,u7,u8,u9,u10] 45 frU)):
    ∀(m:Nat) (i:Int) (S:Slots) (H:St) (β:ib) (Y:Mp) (a:Act),DS (λS H=>eJ f4 call L0 a4S S H) m S H=aa (fl,S',H')->
      S.at 70=uv->VR Y uv (.agg #[u0,u1,u2,u3,u4,u5,u6,u7,u8,u9,u10])->S.at 71= .slice sa n c->VR Y (.slice sa n c) (.slice qz n c')->S.at 72= .int .i64 n->S.at 73= .int .i64 i->S.at 5=vo->VR Y vo (ts.getD 5 undef)->
      Sim (wO w0 O) f4 Y H β->Fr L bA bU (.slice qz n c') n i a->
      (∀W' Y' a',Sim (wO w0 O) f4 Y' H' W'->Ext H.next Y Y'->H.next<=H'.next->fl= .exit 5->S'.at 5=vo->a'.defers=[]->Q (.exit 0) a' W')->
      Code.roundsIn Fence.wide 2 f4 RD Q m a β:=by
 intro m;induction m with
 |zero=>intro i S H β Y a h;simp[DS]at h
 |succ m ih=>
  intro i S H β Y a h g70 r70 g71 r71 g72 g73 g5 r5 ρ hF post;rw[roundsIn_succ];simp only[DS]at h;obtain⟨j3,j4,j5,j6,j7,j8,j12,j13,j14,j15,j16,j17,j18,j19,j20,j21,j22,j23,j24,j25,j26,j27,j28,j29,j30,j31,j32,j33,rfl⟩:=hF.ex
  conv=>arg 4;unfold RD;dsimp only[Tryz.f117]
  cases hx:eJ f4 call L0 a4S S H with
  |none=>rw[hx]at h;cases h
  |some r=>
  obtain⟨f1,S1,H1⟩:=r;rw[hx]at h;unfold a4S at hx;rcases kL hx with⟨S2,H2,e1,hx1⟩|⟨bi,e1⟩
  rotate_left
  .exact absurd (fQ e1).1 bi
  clear hx;obtain⟨-,rfl,b74,bk⟩:=aGA g73 g72 e1;by_cases hin:i<(n:Int)
  rotate_left
  ·
   have a6H:ev S2 (.tmp 74)= .bool aj:=by show S2.at 74=_;rw[b74,bH hin]
   have hx2:f1= .exit 5/\S1=S2/\H1=up H 1:=by
    simp only[eJ,a6H]at hx1;cases hx1;exact⟨rfl,rfl,rfl⟩
   obtain⟨rfl,rfl,rfl⟩:=hx2;simp only[aA,aB]at h;obtain⟨rfl,rfl,rfl⟩:=h;have hp:=λa' hd=>post β Y a' (ρ.next (n:=H.next+1) (iq _ _)) (Ext.refl _ _) (iq _ _) rfl (by rw[bk 5 (by omega)];exact g5) hd
   clear post ih;generalize Code.roundsIn Fence.wide 2 f4 RD Q m=K
   gi_wp2
   all_goals rfl
  ·
   have a6H:ev S2 (.tmp 74)= .bool ah:=by show S2.at 74=_;rw[b74,bG hin]
   rcases kL hx1 with⟨S3,H3,e2,hx2⟩|⟨bi,e2⟩
   rotate_left
   .simp only[eJ,a6H]at e2;cases e2;exact absurd rfl bi
   have q2:S3=S2/\H3=up H 1:=by simp only[eJ,a6H]at e2;cases e2;exact⟨rfl,rfl⟩
   obtain⟨rfl,rfl⟩:=q2;clear hx1 e2;rcases kL hx2 with⟨S4,H4,e3,hx3⟩|⟨bi,e3⟩
   rotate_left
   .exact absurd (fQ e3).1 bi
   obtain⟨-,hi0,-,id,off,l,z,z',rfl,ld,hl,l1,b76,bk4,rfl⟩:=aGz (by rw[bk 71 (by omega)];exact g71) (by rw[bk 73 (by omega)];exact g73) e3
   clear hx2;rcases kL hx3 with⟨S5,H5,e4,hx4⟩|⟨bi,e4⟩
   rotate_left
   .exact absurd (fQ e4).1 bi
   obtain⟨-,vs,H6,s,lt,bb,z5,z5',hc1,v0,v1,v2,hlt,lt1,b78,b79,b80,bk5,rfl⟩:=aGy e4;clear hx3;obtain⟨p,hp,rfl⟩:=slc_inv r71;rw[b76,bk4 70 (by omega),bk 70 (by omega),g70]at hc1
   have ZA:Sim (wO w0 O) f4 Y (up (up H 1) 4) β:=(ρ.next (n:=H.next+1) (iq _ _)).next (n:=H.next+1+4) (iq _ _)
   obtain⟨l',rl,cy⟩:=mO ZA hp ld;have ZB:=ZU (z:=z) (z':=z') ZA (k:=(up H 1).next+2) (ρ.dom _ (by show H.next<=H.next+1+2;omega))
   obtain⟨x0,x1,x2,x3,x4,x5,x6,x7,x8,x9,x10,rfl⟩:=LV (l:=l') (by rw[<-rl.1];exact hl)
   obtain⟨y0,y1,y2,y3,y4,y5,y6,y7,y8,y9,y10,rfl⟩:=LV (l:=l) hl;generalize hσB:(((up (up H 1) 4).put ((up H 1).next+2) (AObj.cells z boxMeta)).put ((up H 1).next+2) (AObj.cells z' boxMeta))=σB at*
   have nB:σB.next=H.next+5:=by rw[<-hσB];rfl
   have pm: ∀x∈ [x0,x1,x2,x3,x4,x5,x6,x7,x8,x9,x10],one x=ah:=by
    have:=rl.one_eq;rw[l1]at this;exact bK.1 this
   have hsx0:=eD (pm x0 (by simp)) f4
   have hsx1:=eD (pm x1 (by simp)) f4
   have hsx2:=eD (pm x2 (by simp)) f4
   have hsx3:=eD (pm x3 (by simp)) f4
   have hsx4:=eD (pm x4 (by simp)) f4
   have hsx5:=eD (pm x5 (by simp)) f4
   have hsx6:=eD (pm x6 (by simp)) f4
   have hsx7:=eD (pm x7 (by simp)) f4
   have hsx8:=eD (pm x8 (by simp)) f4
   have hsx9:=eD (pm x9 (by simp)) f4
   have hsx10:=eD (pm x10 (by simp)) f4
   have hbU:bU<β.heap.size:=(oq.1 (ρ.kept.oth bU _ hU).1).1;have hhU:=(ρ.kept.oth bU _ hU).1;have cu0:β.cell? ⟨bU,0,ae⟩=aa u0:=dR hhU rfl;have cu1:β.cell? ⟨bU,1,ae⟩=aa u1:=dR hhU rfl;have cu2:β.cell? ⟨bU,2,ae⟩=aa u2:=dR hhU rfl;have cu3:β.cell? ⟨bU,3,ae⟩=aa u3:=dR hhU rfl;have cu4:β.cell? ⟨bU,4,ae⟩=aa u4:=dR hhU rfl;have cu5:β.cell? ⟨bU,5,ae⟩=aa u5:=dR hhU rfl;have cu6:β.cell? ⟨bU,6,ae⟩=aa u6:=dR hhU rfl;have cu7:β.cell? ⟨bU,7,ae⟩=aa u7:=dR hhU rfl;have cu8:β.cell? ⟨bU,8,ae⟩=aa u8:=dR hhU rfl;have cu9:β.cell? ⟨bU,9,ae⟩=aa u9:=dR hhU rfl;have cu10:β.cell? ⟨bU,10,ae⟩=aa u10:=dR hhU rfl;have cx0:β.cell? ⟨p.b,p.o+off+i.toNat*11,ae⟩=aa x0:=by have:=cy 0 x0 rfl;rw[show p.o+(off+i.toNat*11)+0=p.o+off+i.toNat*11 by omega]at this;exact this
   have cx1:β.cell? ⟨p.b,p.o+off+i.toNat*11+1,ae⟩=aa x1:=by have:=cy 1 x1 rfl;rw[show p.o+(off+i.toNat*11)+1=p.o+off+i.toNat*11+1 by omega]at this;exact this
   have cx2:β.cell? ⟨p.b,p.o+off+i.toNat*11+2,ae⟩=aa x2:=by have:=cy 2 x2 rfl;rw[show p.o+(off+i.toNat*11)+2=p.o+off+i.toNat*11+2 by omega]at this;exact this
   have cx3:β.cell? ⟨p.b,p.o+off+i.toNat*11+3,ae⟩=aa x3:=by have:=cy 3 x3 rfl;rw[show p.o+(off+i.toNat*11)+3=p.o+off+i.toNat*11+3 by omega]at this;exact this
   have cx4:β.cell? ⟨p.b,p.o+off+i.toNat*11+4,ae⟩=aa x4:=by have:=cy 4 x4 rfl;rw[show p.o+(off+i.toNat*11)+4=p.o+off+i.toNat*11+4 by omega]at this;exact this
   have cx5:β.cell? ⟨p.b,p.o+off+i.toNat*11+5,ae⟩=aa x5:=by have:=cy 5 x5 rfl;rw[show p.o+(off+i.toNat*11)+5=p.o+off+i.toNat*11+5 by omega]at this;exact this
   have cx6:β.cell? ⟨p.b,p.o+off+i.toNat*11+6,ae⟩=aa x6:=by have:=cy 6 x6 rfl;rw[show p.o+(off+i.toNat*11)+6=p.o+off+i.toNat*11+6 by omega]at this;exact this
   have cx7:β.cell? ⟨p.b,p.o+off+i.toNat*11+7,ae⟩=aa x7:=by have:=cy 7 x7 rfl;rw[show p.o+(off+i.toNat*11)+7=p.o+off+i.toNat*11+7 by omega]at this;exact this
   have cx8:β.cell? ⟨p.b,p.o+off+i.toNat*11+8,ae⟩=aa x8:=by have:=cy 8 x8 rfl;rw[show p.o+(off+i.toNat*11)+8=p.o+off+i.toNat*11+8 by omega]at this;exact this
   have cx9:β.cell? ⟨p.b,p.o+off+i.toNat*11+9,ae⟩=aa x9:=by have:=cy 9 x9 rfl;rw[show p.o+(off+i.toNat*11)+9=p.o+off+i.toNat*11+9 by omega]at this;exact this
   have cx10:β.cell? ⟨p.b,p.o+off+i.toNat*11+10,ae⟩=aa x10:=by have:=cy 10 x10 rfl;rw[show p.o+(off+i.toNat*11)+10=p.o+off+i.toNat*11+10 by omega]at this;exact this
   obtain⟨O1,hO1⟩: ∃O1,O1=lS O β.heap.size (.cells #[x0,x1,x2,x3,x4,x5,x6,x7,x8,x9,x10] 45 (0,0)):=⟨_,rfl⟩;have ZX:Sim (wO w0 O1) f4 Y (up σB 6) (β.alloc (.cells #[x0,x1,x2,x3,x4,x5,x6,x7,x8,x9,x10] 45)):=by
    rw[hO1];exact qC (sO (ZB.next (n:=σB.next+6) (iq _ _)) (λC t fr h=>by cases h;rfl)) (World.alloc_heap_new _ _) (tM ZB)
   obtain⟨-,hC⟩:=hcall (wO w0 O1) rfl _ #[.agg #[y0,y1,y2,y3,y4,y5,y6,y7,y8,y9,y10],uv] #[.agg #[x0,x1,x2,x3,x4,x5,x6,x7,x8,x9,x10],.agg #[u0,u1,u2,u3,u4,u5,u6,u7,u8,u9,u10]] _ _ _ Y _ hc1 ZX (.cons (.mkAgg rl) (.cons r70 .nil));obtain⟨ll,rfl,hll⟩:=bFP hlt;have hbb: ∃b,bb= .bool b:=by
    rcases kL hx4 with⟨S6,H7,e5,-⟩|⟨-,e5⟩<;>
    .have e80:ev S5 (.tmp 80)=bb:=b80;simp only[eJ,e80]at e5;split at e5
     .exact⟨_,rfl⟩
     .exact⟨_,rfl⟩
     .cases e5
   obtain⟨b,rfl⟩:=hbb
   replace hcall:= @Hd.mk _ hcall
   clear hhU hc1 ZX e1 e3 e4 cy hF
   replace hC:=Hd.mk hC;replace h:=Hd.mk h;replace ih:= @Hd.mk _ ih;replace post:=Hd.mk post;replace hx4:=Hd.mk hx4;replace ρ:=Hd.mk ρ;replace ZA:=Hd.mk ZA;replace ZB:=Hd.mk ZB
   gi_wp2
   refine⟨trivial,((callsIn_wide (n:=1)).2 hC.h).mono ?_⟩;rintro e w' ⟨Y2,r',rfl,hr,Z2,E2,n2⟩;obtain⟨us,rfl,hus⟩:=hr.tuple_inv;obtain⟨s',us0,rs⟩:=hus.get (i:=0) (x:=s) (by simpa using v0)
   obtain⟨lt',us1,rlt⟩:=hus.get (i:=1) (by simpa using v1)
   obtain⟨b',us2,rb⟩:=hus.get (i:=2) (by simpa using v2)
   rw[Array.getElem?_toList]at us0 us1 us2;obtain⟨ll',rfl,rll⟩:=aEr rlt;obtain⟨l0,l1,l2,l3,l4,l5,l6,l7,l8,l9,l10,rfl⟩:=LV (l:=ll') (by rw[<-rll.1];exact hll)
   have gx: ∀x∈ [l0,l1,l2,l3,l4,l5,l6,l7,l8,l9,l10],one x=ah:=by
    have h9:=rll.one_eq;rw[show ll.all one=ah from(by simpa [Value.cells]using lt1)]at h9;exact bK.1 h9
   have bm:=rb.bool_inv;subst bm;have hsl0:=eD (gx l0 (by simp)) f4
   have hsl1:=eD (gx l1 (by simp)) f4
   have hsl2:=eD (gx l2 (by simp)) f4
   have hsl3:=eD (gx l3 (by simp)) f4
   have hsl4:=eD (gx l4 (by simp)) f4
   have hsl5:=eD (gx l5 (by simp)) f4
   have hsl6:=eD (gx l6 (by simp)) f4
   have hsl7:=eD (gx l7 (by simp)) f4
   have hsl8:=eD (gx l8 (by simp)) f4
   have hsl9:=eD (gx l9 (by simp)) f4
   have hsl10:=eD (gx l10 (by simp)) f4
   have hhX:=(Z2.kept.oth β.heap.size (.cells #[x0,x1,x2,x3,x4,x5,x6,x7,x8,x9,x10] 45 (0,0)) (by show O1 _=_;rw[hO1];exact Ai _ _ _)).1
   have hbX:β.heap.size<w'.heap.size:=(oq.1 hhX).1;clear cx0 cx1 cx2 cx3 cx4 cx5 cx6 cx7 cx8 cx9 cx10 cu0 cu1 cu2 cu3 cu4 cu5 cu6 cu7 cu8 cu9 cu10;have cx0:w'.cell? ⟨β.heap.size,0,ae⟩=aa x0:=dR hhX rfl;have cx1:w'.cell? ⟨β.heap.size,1,ae⟩=aa x1:=dR hhX rfl;have cx2:w'.cell? ⟨β.heap.size,2,ae⟩=aa x2:=dR hhX rfl;have cx3:w'.cell? ⟨β.heap.size,3,ae⟩=aa x3:=dR hhX rfl;have cx4:w'.cell? ⟨β.heap.size,4,ae⟩=aa x4:=dR hhX rfl;have cx5:w'.cell? ⟨β.heap.size,5,ae⟩=aa x5:=dR hhX rfl;have cx6:w'.cell? ⟨β.heap.size,6,ae⟩=aa x6:=dR hhX rfl;have cx7:w'.cell? ⟨β.heap.size,7,ae⟩=aa x7:=dR hhX rfl;have cx8:w'.cell? ⟨β.heap.size,8,ae⟩=aa x8:=dR hhX rfl;have cx9:w'.cell? ⟨β.heap.size,9,ae⟩=aa x9:=dR hhX rfl;have cx10:w'.cell? ⟨β.heap.size,10,ae⟩=aa x10:=dR hhX rfl;clear hhX;have kD:Y2 (σB.next+4)=ae:=by
    rw[E2.2 (σB.next+4) (by show σB.next+4<σB.next+6;omega)]
    exact ZB.h.dom _ (iq _ _)
   have ZD:=Hd.mk (ZU (z:=z5) (z':=z5') Z2 kD);generalize hσD:((H6.put (σB.next+4) (AObj.cells z5 boxMeta)).put (σB.next+4) (AObj.cells z5' boxMeta))=σD at*
   have nD:σD.next=H6.next:=by rw[<-hσD];rfl
   replace Z2:=Hd.mk Z2
   replace E2:=Hd.mk E2
   gi_wp2
   rename_i K5 hK5 K hK;refine Go.wpIn_mono (Q:=Fq K) ?_ (λe a w h=>by cases e<;>first|exact h|exact h.elim)
   have tail: ∀(ts':Array av) (w3:ib) (Y3:Mp) (σE:St),Fr L bA bU (.slice (aa ⟨p.b,p.o+off,ae⟩) n c') n i (fr ts')->ts'.getD 32 undef= .bool aj->
          Sim (wO w0 O) f4 Y3 σE w3->Ext H.next Y Y3->H.next<=σE.next->(∃S6,(∀k,k<77->S6.at k=S5.at k)/\eJ f4 call L0 (.region 55 aGw aj) S6 σE=aa (f1,S1,H1))->K (fr ts') w3:=by
    intro ts' w3 Y3 σE hF' h32 ZE EE hn hAI;obtain⟨S6,bk6,hx5⟩:=hAI;have h:=h.h;obtain⟨rfl,rfl,f73,fk⟩:=aGv (i:=i) (by rw[bk6 73 (by omega),bk5 73 (by omega),bk4 73 (by omega),bk 73 (by omega)];exact g73) hx5
    simp only at h;refine hK _ _ ?_;refine wpIn_cond_false (by rw[fH];exact h32) ?_
    apply wpIn_skip;simp only[Exit.inBlock,Exit.then];refine hK5 _ _ ?_;refine wpIn_region_lit ?_;refine uD rfl (aRc (i:=i) rfl (by rw[fH];exact hF'.h11) rfl _) ?_
    refine uD rfl (uS rfl _) ?_;refine wpListIn_nil ?_;simp only[Exit.then];have sk: ∀k,k<73->S1.at k=S.at k:=λk hk=>by rw[fk k (by omega) (by omega),bk6 k (by omega),bk5 k (by omega),bk4 k (by omega),bk k (by omega)]
    have sz':ts'.size=34:=hF'.sz;refine ih.h _ S1 (up σE 2) w3 Y3 _ h (by rw[sk 70 (by omega)];exact g70) (r70.mono EE) (by rw[sk 71 (by omega)];exact g71) (r71.mono EE) (by rw[sk 72 (by omega)];exact g72) f73 (by rw[sk 5 (by omega)];exact g5) (r5.mono EE) (ZE.next (n:=σE.next+2) (iq _ _)) ?_ ?_
    .simp only[jS];refine⟨rfl,by simp[fr,sz'],?_,?_,?_,?_,?_,?_⟩
     .rw[lC,cL (by omega),cL (by omega)];exact hF'.h0
     .rw[lC,cL (by omega),cL (by omega)];exact hF'.h1
     .rw[lC,cL (by omega),cL (by omega)];exact hF'.h2
     .rw[lC,cL (by omega),cL (by omega)];exact hF'.h9
     .rw[lC,cL (by omega),cL (by omega)];exact hF'.h10
     .rw[lC,eX (by simp[sz'])];rw[fH,eX (by omega)]
    .intro W' Y' a' ρ' E' mi gl hs hd;exact post.h W' Y' a' ρ' (EE.trans E' (by show H.next<=σE.next+2;omega)) (by have:σE.next+2<=H'.next:=mi;omega) gl hs hd
   have leO: ∀k o,O k=aa o->k<β.heap.size:=λk o hk=>(oq.1 (ρ.h.kept.oth k o hk).1).1
   have hOO1: ∀k o,O k=aa o->O1 k=aa o:=λk o hk=>by
    rw[hO1];unfold lS;rw[bI (by have:=leO k o hk;omega)];exact hk
   have EE2:Ext H.next Y Y2:=E2.h.mono (by show H.next<=σB.next+6;omega)
   have nn2:H.next<=σD.next:=by rw[nD];have:σB.next+6<=H6.next:=n2;omega
   have ZP:Sim (wO w0 O1) f4 Y2 σD (w'.alloc (.cells #[l0,l1,l2,l3,l4,l5,l6,l7,l8,l9,l10] 45)):=sO ZD.h (λC t fr h=>by cases h;rfl)
   cases b with
   |false=>
    have hx5:eJ f4 call L0 (.region 55 aGw aj) S5 σD=aa (f1,S1,H1):=by
     have hx4:=hx4.h;have e80:ev S5 (.tmp 80)= .bool aj:=b80;rcases kL hx4 with⟨S6,H7,e5,e6⟩|⟨bi,e5⟩
     .simp only[eJ,e80]at e5;cases e5;exact e6
     .simp only[eJ,e80]at e5;cases e5;exact absurd rfl bi
    refine aFo rfl rfl ?_;intro ts' pd lo h32;exact tail ts' _ Y2 σD ⟨rfl,pd,lo 0 (by omega),lo 1 (by omega),lo 2 (by omega),lo 9 (by omega),lo 10 (by omega),lo 11 (by omega)⟩ h32 (yY (QG ZP) hOO1) EE2 nn2 ⟨S5,λ_ _=>rfl,hx5⟩
   |true=>
    have hx5: ∃S6 H7,eJ f4 call L0 (.region 54 a1m aj) S5 σD=aa (.normal,S6,H7)/\eJ f4 call L0 (.region 55 aGw aj) S6 H7=aa (f1,S1,H1):=by
     have hx4:=hx4.h;have e80:ev S5 (.tmp 80)= .bool ah:=b80;rcases kL hx4 with⟨S6,H7,e5,e6⟩|⟨bi,e5⟩
     .rw[aIy e80]at e5;exact⟨S6,H7,e5,e6⟩
     .rw[aIy e80]at e5;exact absurd (fQ e5).1 bi
    obtain⟨S6,σE,e5,e6⟩:=hx5;obtain⟨-,g,H8,fv,zz,H4,xx,s2,yy,hc2,RE,bk6⟩:=aGx e5;rw[bk5 76 (by omega),b76]at hc2
    rw[b78,b79,bk5 5 (by omega),bk4 5 (by omega),bk 5 (by omega),g5]at RE
    obtain⟨O2,hO2⟩: ∃O2,O2=lS O1 w'.heap.size (.cells #[l0,l1,l2,l3,l4,l5,l6,l7,l8,l9,l10] 45 (0,0)):=⟨_,rfl⟩;have ZQ:Sim (wO w0 O2) f4 Y2 σD (w'.alloc (.cells #[l0,l1,l2,l3,l4,l5,l6,l7,l8,l9,l10] 45)):=by
     rw[hO2];exact qC ZP (World.alloc_heap_new _ _) (tM ZD.h)
    have hOO2: ∀k o,O k=aa o->O2 k=aa o:=λk o hk=>by
     rw[hO2];unfold lS;rw[bI (by have:=leO k o hk;omega)];exact hOO1 k o hk
    have hO2X:O2 β.heap.size=aa (.cells #[x0,x1,x2,x3,x4,x5,x6,x7,x8,x9,x10] 45 (0,0)):=by
     rw[hO2];unfold lS;rw[bI (by omega),hO1];exact Ai _ _ _
    have hO2Y:O2 w'.heap.size=aa (.cells #[l0,l1,l2,l3,l4,l5,l6,l7,l8,l9,l10] 45 (0,0)):=by rw[hO2];exact Ai _ _ _
    have ZR:Sim (wO w0 O2) f4 Y2 (up σD 9) (w'.alloc (.cells #[l0,l1,l2,l3,l4,l5,l6,l7,l8,l9,l10] 45)).drew:=(QG ZQ).next (n:=σD.next+9) (iq _ _)
    have rl2:VRL Y2 [y0,y1,y2,y3,y4,y5,y6,y7,y8,y9,y10] [x0,x1,x2,x3,x4,x5,x6,x7,x8,x9,x10]:=rl.mono EE2;obtain⟨-,hC2⟩:=hcall.h (wO w0 O2) rfl _ #[.agg #[y0,y1,y2,y3,y4,y5,y6,y7,y8,y9,y10]] #[.agg #[x0,x1,x2,x3,x4,x5,x6,x7,x8,x9,x10]] _ _ _ Y2 _ hc2 ZR (.cons (.mkAgg rl2) .nil);refine aOi (L:=L) (bX:=β.heap.size) (bY:=w'.heap.size) (s:=s') (R:=λqf=> ∃Y5,Sim (wO w0 O) f4 Y5 σE qf/\Ext H.next Y Y5/\H.next<=σE.next) rfl rfl rfl rfl rfl rfl (Uj (ZR.kept.oth _ _ hO2X).1) (Uj (ZR.kept.oth _ _ hO2Y).1) (((callsIn_wide (n:=1)).2 hC2).mono ?_) ?_
    .rintro e w4 ⟨Y4,g',rfl,rg,Z4,E4,n4⟩;obtain⟨fv',hb1,rfv⟩:=Cj (Y:=Y4) (P:=f4) (Z:=λo=>match o with| .tmp 25=>s| .tmp 26=> .agg ll.toArray|_=>g) (Z':=λo=>match o with| .tmp 25=>s'| .tmp 26=> .agg #[l0,l1,l2,l3,l4,l5,l6,l7,l8,l9,l10]|_=>g')
      (o:=jF ae (.build 143 #[(0,.tmp 25),(1,.tmp 26),(2,.tmp 28)]) 0) (v:=fv) (λx hx=>by
       have:x= .tmp 25∨x= .tmp 26∨x= .tmp 28:=by simpa [Op.operands,jF]using hx
       rcases this with rfl|rfl|rfl
       .exact rs.mono E4
       .exact(VR.mkAgg rll).mono E4
       .exact rg) (by unfold gN;simp only[jF,List.map_toArray,aO,List.map_nil];exact RE.bld)
     refine⟨g',fv',rfl,Uj (Z4.kept.oth _ _ hO2Y).1,λZ o ho bEj bEi h28 w=>aDz ho rfl bEj bEi h28 (λw=>gT hb1 w) w,_,_,_,_,run_yield (Z4.kept.oth L _ (hOO2 L _ hL)).1 rfl,?_⟩
     have kb:Y4 (σD.next+2)=ae:=by
      rw[E4.2 (σD.next+2) (by show σD.next+2<σD.next+9;omega)];exact ZD.h.dom _ (iq _ _)
     have n4':σD.next+9<=H8.next:=n4
     refine(aFh (n:=1) (w0:=w0) (O:=O2) Z4 kb (by omega) fy (hOO2 L _ hL) hL0 ((r5.mono EE2).mono E4) RE rfv).mono ?_
     rintro e w5 ⟨rfl,Y5,Z5,e5a,e5b,n5⟩;have EE4:Ext H.next Y Y4:=EE2.trans (E4.mono (n':=σD.next) (by show σD.next<=σD.next+9;omega)) nn2
     exact⟨rfl,Y5,yY Z5 hOO2,⟨λid q hq=>e5a _ _ (EE4.1 id q hq),λid hid=>by rw[e5b id (by omega)];exact EE4.2 id hid⟩,by omega⟩
    .rintro ts' w5 pd lo h32 ⟨Y5,Z5,EE5,n5⟩;exact tail ts' _ Y5 σE ⟨rfl,pd,lo 0 (by omega),lo 1 (by omega),lo 2 (by omega),lo 9 (by omega),lo 10 (by omega),lo 11 (by omega)⟩ h32 Z5 EE5 n5 ⟨S6,λk hk=>bk6 k (by omega),e6⟩
end
end Go.Rf
namespace Go.Rf
open Go.AI Go.Proofs Go.RowKit Go.Shelf
attribute [local go_sem] Oper.semAt_some
set_option maxHeartbeats 4000000 in
set_option maxRecDepth 100000 in
def R3(β:ib)(o:f9 Addr)(n c:Nat)(u0 u1 u2 u3 u4 u5 u6 u7 u8 u9 u10:av):Calls f4 89 #[.slice o n c,.agg #[u0,u1,u2,u3,u4,u5,u6,u7,u8,u9,u10]] β λe w'=>e= .returned (.func (.func 117) #[] #[.pointer (aa ⟨β.heap.size,0,ae⟩),.pointer (aa ⟨β.heap.size+1,0,ae⟩)])/\w'=(β.alloc (.cells #[.slice o n c] 30)).alloc (.cells #[u0,u1,u2,u3,u4,u5,u6,u7,u8,u9,u10] 45):=by
 refine(callsIn_wide (n:=3)).1 ?_;refine callsIn_of_wp Tryz.func89 rfl trivial ?_ rfl;simp only[Tryz.ntmps89,List.size_toArray,aM,aX,Nat.reduceAdd,Nat.reduceSub,Array.replicate_succ,Array.replicate_zero,List.push_toArray,List.append_toArray,aW,aY]
 gi_wp2
 go_ret
 exact⟨rfl,rfl⟩
set_option maxRecDepth 100000 in
def aO7{b:Nat}{β:ib}{o:f9 Addr}{n c:Nat}{aNj:Nat×Nat}(h:β.heap[b]?=aa (.cells #[.slice o n c] 30 aNj)):(Instr.loadAt 30 (.pointer (aa ⟨b,0,ae⟩))).run f4 β= .ok (.slice o n c) β:=by
 have c0:β.cell? ⟨b,0,ae⟩=aa (.slice o n c):=dR h rfl;clear h
 go_simp
set_option maxRecDepth 100000 in
def aPa{Z:a8->av}{o:ic}{x:a8}{a:f9 Addr}{n c:Nat}(ho:o.op= .call {callee:= .builtin .len,args:= #[x],argTypes:= #[30]})(hx:Z x= .slice a n c)(w:ib):(execOp Z o).run f4 w= .ok (.value (.int .i64 n)) w:=by
 unfold execOp;rw[ho];simp only[List.map_toArray,aO,List.map_nil]
 go_simp
set_option maxHeartbeats 1000000 in
set_option maxRecDepth 100000 in
def bNg{w0:W0}{O:Nat->f9 Obj}{call:FuncId->Array av->St->f9 (av×St)}(hcall: ∀w1:W0,w1.toWorld=w0.toWorld->iV w1 f4 call)
    {L D bA bU L0 n c c':Nat} {fn:FuncId} {ts:Array av} {vo uv:av} {sa qz:f9 Addr} {fl:Fl} {S S':Slots} {H H':St} {Y:Mp} {β:ib} {u0 u1 u2 u3 u4 u5 u6 u7 u8 u9 u10:av} {frU frA:Nat×Nat}
    (fy:68<=ts.size) (hL:O L=aa (.loop (Ak fn ts D .ready ae))) (hL0:w0.heap.size<=L) (hU:O bU=aa (.cells #[u0,u1,u2,u3,u4,u5,u6,u7,u8,u9,u10] 45 frU)) (hA:O bA=aa (.cells #[.slice qz n c'] 30 frA))
    (h:eJ f4 call L0 (.block 5 (.loop a4S)) S H=aa (fl,S',H'))
    (g70:S.at 70=uv) (r70:VR Y uv (.agg #[u0,u1,u2,u3,u4,u5,u6,u7,u8,u9,u10])) (g71:S.at 71= .slice sa n c) (r71:VR Y (.slice sa n c) (.slice qz n c')) (g72:S.at 72= .int .i64 n) (g73:S.at 73= .int .i64 0) (g5:S.at 5=vo) (r5:VR Y vo (ts.getD 5 undef))
    (ρ:Sim (wO w0 O) f4 Y H β):
    CallsIn Fence.wide 2 f4 117 #[.func (.yield L) #[] #[],.pointer (aa ⟨bA,0,ae⟩),.pointer (aa ⟨bU,0,ae⟩)] β λe W'=>(∃v,e= .returned v)/\fl= .normal/\S'.at 5=vo/\∃Y',Sim (wO w0 O) f4 Y' H' W'/\Ext H.next Y Y'/\H.next<=H'.next:=by
 refine callsIn_of_wp Tryz.func117 rfl trivial ?_ rfl;simp only[Tryz.ntmps117,List.size_toArray,aM,aX,Nat.reduceAdd,Nat.reduceSub,Array.replicate_succ,Array.replicate_zero,List.push_toArray,List.append_toArray,aW,aY];generalize hts0:(#[.func (.yield L) #[] #[],.pointer (aa ⟨bA,0,ae⟩),.pointer (aa ⟨bU,0,ae⟩),undef,undef,undef,undef,undef,undef,undef,undef,undef,undef,undef,undef,undef,undef,undef,undef,undef,undef,undef,undef,undef,undef,undef,undef,undef,undef,undef,undef,undef,undef,undef]:Array av)=t0;have z0:t0.size=34:=by rw[<-hts0];rfl
 have q0:t0.getD 0 undef= .func (.yield L) #[] #[]:=by rw[<-hts0];rfl
 have q1:t0.getD 1 undef= .pointer (aa ⟨bA,0,ae⟩):=by rw[<-hts0];rfl
 have q2:t0.getD 2 undef= .pointer (aa ⟨bU,0,ae⟩):=by rw[<-hts0];rfl
 clear hts0;change Code.wpIn Fence.wide 2 f4 _ _ (fr t0) β;obtain⟨fl0,S0,H0,hit⟩: ∃fl0 S0 H0,DS (λS H=>eJ f4 call L0 a4S S H) L0 S H=aa (fl0,S0,H0):=by
  simp only[eJ]at h;cases hx:DS (λS H=>eJ f4 call L0 a4S S H) L0 S H with
  |none=>rw[hx]at h;cases h
  |some r=>exact⟨r.1,r.2.1,r.2.2,rfl⟩
 have we:fl0= .exit 5->fl= .normal/\S'=S0/\H'=H0:=by
  rintro rfl;simp only[eJ]at h;rw[hit]at h;simp only[dZ,bN,aI,aA,aB]at h;exact⟨h.1.symm,h.2.1.symm,h.2.2.symm⟩
 refine wpIn_seq ?_;refine wpIn_region_lit ?_;refine uD rfl (pW rfl (by rw[fH,q1];exact aO7 (ρ.kept.oth _ _ hA).1)) ?_
 simp only[jS];refine uD rfl (aPa rfl (by rw[fH,eX (by omega)]) _) ?_
 simp only[jS];refine uD rfl (uS rfl _) ?_;simp only[jS];refine wpListIn_nil ?_;simp only[Exit.then];refine wpIn_block ?_;refine wpIn_loop_rounds L0 ?_;have e127:(Code.roundsIn Fence.wide 2 f4 RD)=(Code.roundsIn Fence.wide 2 f4 RD):=rfl;refine aO6 (bA:=bA) hcall fy hL hL0 hU L0 0 S H β Y _ hit g70 r70 g71 r71 g72 g73 g5 r5 ρ ⟨rfl,by simp[fr,z0],?_,?_,?_,?_,?_,?_⟩ ?_
 .rw[lC,cL (by omega),cL (by omega),cL (by omega)];exact q0
 .rw[lC,cL (by omega),cL (by omega),cL (by omega)];exact q1
 .rw[lC,cL (by omega),cL (by omega),cL (by omega)];exact q2
 .rw[lC,cL (by omega),cL (by omega),eX (by omega)]
 .rw[lC,cL (by omega),eX (by simp[z0])]
 .rw[lC,eX (by simp[z0])];rfl
 .intro W' Y' a' ρ' E' hn gl hs hd;obtain⟨r1,rfl,rfl⟩:=we gl;simp only[Exit.inBlock,bQ];refine⟨hd,_,results_none rfl _ _ _,⟨_,rfl⟩,r1,hs,Y',ρ',E',hn⟩
end Go.Rf
namespace Go.Rf
open Go.AI Go.Proofs Go.RowKit Go.Shelf
noncomputable section
attribute [local go_sem] Oper.semAt_some
def pA:Code:=match aCB with| .seq a _=>a|_=> .skip
def pB:Code:=match aCB with| .seq _ (.seq a _)=>a|_=> .skip
def pC:Code:=match aCB with| .seq _ (.seq _ (.seq a _))=>a|_=> .skip
def pD:Code:=match aCB with| .seq _ (.seq _ (.seq _ (.seq (.seq a _) _)))=>a|_=> .skip
def pE:Code:=match aCB with| .seq _ (.seq _ (.seq _ (.seq _ (.seq a _))))=>a|_=> .skip
def aEz:aCB= .seq pA (.seq pB (.seq pC (.seq (.seq pD (.block 3 (.rangeFunc (.tmp 61) #[62] parts.1 parts.2))) (.seq pE .ret)))):=by kernel_rfl
def aND:Tryz.f39.body=aa aCB:=by kernel_rfl
def aNM:ZN aCB= .seq pA (.seq pB (.seq pC (.seq bE5 a6I))):=by rw[aEz];rfl
def bBA:fJ f4 68 pA=ah:=by kernel_rfl
def bBz:fJ f4 68 pB=ah:=by kernel_rfl
def bBy:fJ f4 68 pC=ah:=by kernel_rfl
def aEq{Y:Mp}{a:f9 Addr}{n c:Nat}{u:av}(h:VR Y (.slice a n c) u): ∃a' c',u= .slice a' n c':=by
 cases h with
 |same _ h=>exact⟨_,_,rfl⟩
 |slc _ _ _ _ cap p hp=>exact⟨_,_,rfl⟩
 |emp a s cap h=>exact⟨_,_,rfl⟩
def a5g{Z:a8->av}{o:ic}{x:a8}(ho:o.op= .assign x)(w:ib):(execOp Z o).run f4 w= .ok (.value (Z x)) w:=by
 unfold execOp;rw[ho];rfl
def aEK{n:Nat}{P:az}{ops:Array ic}{Q:Exit->Act->ib->Prop}{rest:au ic}{o:ic}{a:Act}{w w':ib}{f:FuncId}{args:Array av}(hg:o.guard=ae)
    (h:(execOp a.eval o).run P w= .ok (.enter f args) w') (k:CallsIn Fence.wide (n-1) P f args w' λe qf=> ∃v,e= .returned v/\wpListIn Fence.wide n P ops Q rest (a.put o.dst v) qf):wpListIn Fence.wide n P ops Q (o::rest) a w:=by
 refine wpListIn_plain hg λK hK=>?_
 unfold Oper.wpIn;rw[Fence.wide_round,Oper.semAt_none];refine⟨λf _=>trivial,?_⟩
 rw[h,Oper.uponIn_enter];refine⟨(λh=>(by cases h)),k.mono ?_⟩
 rintro e w ⟨v,rfl,hk⟩;exact hK _ _ hk
def aH0: ∃fn code,Tryz.prog.funcs[89]?=aa fn/\fn.body=aa code/\(fn.name== "runtime.NumGoroutine")=aj:=⟨_,_,Tryz.func89,rfl,by kernel_rfl⟩
set_option maxHeartbeats 2000000 in
set_option maxRecDepth 100000 in
def aCA(w0:W0):aUx w0 f4 39 tyF (ZN aCB):=by
 refine⟨⟨_,_,Tryz.func39,rfl,by kernel_rfl⟩,?_⟩
 intro call L0 hcall args args' H H' w Y r h ρ hargs _;refine(callsIn_wide (n:=3)).1 (callsIn_of_wp_marks Tryz.func39 aND trivial ?_ rfl);rw[Tryz.ntmps39,aEz];rw[aNM]at h;have A0:AR Y (qK args.toList 0 .nil) 68 {tmps:=args'++Array.replicate (68-args'.size) undef,defers:=[]}:=by
  have bu:=hargs.size;refine⟨by simp;omega,rfl,λi=>?_⟩
  rw[Gf];simp only[Nat.zero_le,true_and,Nat.zero_add,Nat.sub_zero,Array.length_toList];rw[iz];by_cases hi:i<args.size
  .rw[bJ hi,Array.getElem?_append_left (by omega)]
   have h1:args.toList[i]?=aa args[i]:=by simp[hi]
   obtain⟨u,hu,hr⟩:=hargs.get h1;have ki:args'[i]?=aa u:=by simpa using hu
   rw[h1,ki];exact hr
  .rw[bI hi,Array.getElem?_append_right (by omega)]
   have:((Array.replicate (68-args'.size) undef)[i-args'.size]?).getD undef=undef:=by
    by_cases h2:i-args'.size<68-args'.size
    .simp[h2]
    .simp[h2]
   rw[this];exact .undef
 generalize hR:(λ(e:Ending) (w':ib)=> ∃Y' r',e= .returned r'/\VR Y' r r'/\Sim w0 f4 Y' H' w'/\Ext H.next Y Y'/\H.next<=H'.next)=Rr
 have gc:tyF.results.toList=[.tmp 4]:=by kernel_rfl
 have fin: ∀fl S' H1,oZ f4 tyF (aa (fl,S',H1))=aa (r,H')->Post w0 f4 Y H.next 68 S' H1 (bodyPostM Fence.wide 3 f4 Tryz.f39 Rr fl.out):=by
  intro fl S' H1 he a' w' Y' A' ρ' E' hn;have key:r=S'.at 4/\H'=H1/\∀k,fl≠ .exit k:=by
   cases fl with
   |exit k=>simp[oZ]at he
   |normal=>simp only[oZ,gc,fP,uF,aK,aA,aB,vH]at he;exact⟨he.1.symm,he.2.symm,λk e=>by cases e⟩
   |ret=>simp only[oZ,gc,fP,uF,aK,aA,aB,vH]at he;exact⟨he.1.symm,he.2.symm,λk e=>by cases e⟩
  obtain⟨rfl,rfl,bi⟩:=key;have hm:LeavesInM Fence.wide 3 f4 Tryz.f39 a'.tmps Rr a'.defers .returning w':=by
   rw[A'.defers];exact⟨_,results_tmp rfl _ _ _,by rw[<-hR];exact⟨Y',_,rfl,A'.slot 4,ρ',E',hn⟩⟩
  cases fl with
  |exit k=>exact absurd rfl (bi k)
  |normal=>exact hm
  |ret=>exact hm
 have thenQ: ∀(fl:Fl) (K:Act->ib->Prop) (Q:Exit->Act->ib->Prop),fl≠ .normal->Exit.then K Q fl.out=Q fl.out:=λfl K Q h=>by cases fl<;>first|exact absurd rfl h|rfl
 cases hx:eJ f4 call L0 (.seq pA (.seq pB (.seq pC (.seq bE5 a6I)))) (qK args.toList 0 .nil) H with
 |none=>rw[hx]at h;simp[oZ]at h
 |some r0=>
 obtain⟨fl,S',H1⟩:=r0;rw[hx]at h;have hfin:=fin fl S' H1 h;have hc0:=hcall w0 rfl;refine wpIn_seq (wpIn_wide.2 ?_);rcases kL hx with⟨S1,Ha,e1,hx1⟩|⟨bi,e1⟩
 rotate_left
 .exact rL hc0 CI L0 68 pA _ _ _ _ _ _ _ _ _ e1 bBA A0 ρ (by rw[thenQ _ _ _ bi];exact hfin)
 refine rL hc0 CI L0 68 pA _ _ _ _ _ _ _ _ _ e1 bBA A0 ρ ?_;intro a1 w1 Y1 A1 Z1 E1 n1;refine wpIn_seq (wpIn_wide.2 ?_);have hfin1:=hfin.later E1 n1;rcases kL hx1 with⟨S2,Hb,e2,hx2⟩|⟨bi,e2⟩
 rotate_left
 .exact rL hc0 CI L0 68 pB _ _ _ _ _ _ _ _ _ e2 bBz A1 Z1 (by rw[thenQ _ _ _ bi];exact hfin1)
 refine rL hc0 CI L0 68 pB _ _ _ _ _ _ _ _ _ e2 bBz A1 Z1 ?_;intro a2 w2 Y2 A2 Z2 E2 n2;refine wpIn_seq (wpIn_wide.2 ?_);have hfin2:=hfin1.later E2 n2;rcases kL hx2 with⟨S3,Hc,e3,hx3⟩|⟨bi,e3⟩
 rotate_left
 .exact rL hc0 CI L0 68 pC _ _ _ _ _ _ _ _ _ e3 bBy A2 Z2 (by rw[thenQ _ _ _ bi];exact hfin2)
 refine rL hc0 CI L0 68 pC _ _ _ _ _ _ _ _ _ e3 bBy A2 Z2 ?_;intro a3 w3 Y3 A3 Z3 E3 n3;have EE3:Ext H.next Y Y3:=(E1.trans E2 n1).trans E3 (by omega)
 have NN3:H.next<=Hc.next:=by omega
 clear hx hx1 hx2 e1 e2 e3 A0 A1 A2 ρ Z1 Z2 E1 E2 E3 hfin1 hfin2;obtain⟨flx,S4,H4,hcd,hrest⟩: ∃flx S4 H4,eJ f4 call L0 bE5 S3 Hc=aa (flx,S4,H4)/\(flx= .normal->eJ f4 call L0 a6I S4 H4=aa (fl,S',H1)):=by
  rcases kL hx3 with⟨S4,H4,e4,hx4⟩|⟨bi,e4⟩
  .exact⟨_,_,_,e4,λ_=>hx4⟩
  .exact⟨_,_,_,e4,λh=>absurd h bi⟩
 unfold bE5 at hcd;rcases kL hcd with⟨S5,H5,e5,qn⟩|⟨bi,e5⟩
 rotate_left
 .exact absurd (fQ e5).1 bi
 obtain⟨-,rfl,u,sa,nn,cc,hlu,s0,g70,g71,g72,g73,g5⟩:=aGB e5;obtain⟨sl',c',co⟩:=aEq (by have:=A3.slot 0;rw[s0]at this;exact this)
 have rsl:VR Y3 (.slice sa nn cc) (.slice sl' nn c'):=by have:=A3.slot 0;rw[s0,co]at this;exact this
 have Z4:Sim w0 f4 Y3 (up Hc 4) w3:=Z3.next (n:=Hc.next+4) (iq _ _)
 obtain⟨lu,rfl,hlu11⟩:=RH hlu;obtain⟨u',hu1,ru⟩:=yJ Z4 (A3.slot 3) hlu;obtain⟨lu',rfl,rlu⟩:=aEr ru;obtain⟨u0,u1,u2,u3,u4,u5,u6,u7,u8,u9,u10,rfl⟩:=LV (l:=lu') (by rw[<-rlu.1];exact hlu11)
 obtain⟨ts,ds⟩:=a3;have hd3:ds=[]:=A3.defers;subst hd3;have bu:68<=ts.size:=A3.size;have hsl':ts.getD 0 undef= .slice sl' nn c':=co;have q5:VR Y3 (S3.at 5) (ts.getD 5 undef):=A3.slot 5;change Code.wpIn Fence.wide 3 f4 _ _ (fr ts) w3;refine wpIn_seq (wpIn_seq ?_)
 conv=>arg 4;unfold pD aCB;dsimp only[Tryz.f39,Option.getD]
 refine wpIn_region_lit ?_;refine uD rfl (uS rfl _) ?_;rw[fH,hsl'];simp only[jS];refine uD rfl (pW rfl (by rw[fH,cL (by omega)];exact hu1)) ?_
 simp only[jS];refine aEK rfl (Ci rfl rfl rfl aH0) ?_;simp only[List.map_toArray,aO,List.map_nil];rw[fH,fH,cL (by omega),eX (by omega),eX (by simp;omega)]
 refine((callsIn_wide (n:=2)).2 (R3 w3 sl' nn c' u0 u1 u2 u3 u4 u5 u6 u7 u8 u9 u10)).mono ?_;rintro e w4 ⟨rfl,rfl⟩;refine⟨_,rfl,?_⟩;simp only[jS];refine wpListIn_nil ?_;simp only[Exit.then];generalize fy:((ts.setIfInBounds 59 (.slice sl' nn c')).setIfInBounds 60 (.agg #[u0,u1,u2,u3,u4,u5,u6,u7,u8,u9,u10])).setIfInBounds 61 (.func (.func 117) #[] #[.pointer (aa ⟨w3.heap.size,0,ae⟩),.pointer (aa ⟨w3.heap.size+1,0,ae⟩)])=ts';have pd:68<=ts'.size:=by rw[<-fy];simp;omega
 have h61:ts'.getD 61 undef= .func (.func 117) #[] #[.pointer (aa ⟨w3.heap.size,0,ae⟩),.pointer (aa ⟨w3.heap.size+1,0,ae⟩)]:=by rw[<-fy,eX (by simp;omega)]
 have h5:ts'.getD 5 undef=ts.getD 5 undef:=by rw[<-fy,cL (by omega),cL (by omega),cL (by omega)]
 obtain⟨oA,hoA⟩: ∃o,o=Obj.cells #[Value.slice sl' nn c'] 30 (0,0):=⟨_,rfl⟩;obtain⟨oU,hoU⟩: ∃o,o=Obj.cells #[u0,u1,u2,u3,u4,u5,u6,u7,u8,u9,u10] 45 (0,0):=⟨_,rfl⟩;have hnA: ∀C t fr,oA= .cells C t fr->fr=(0,0):=λC t fr h=>by rw[hoA]at h;cases h;rfl
 have hnU: ∀C t fr,oU= .cells C t fr->fr=(0,0):=λC t fr h=>by rw[hoU]at h;cases h;rfl
 rw[show(Obj.cells #[Value.slice sl' nn c'] 30)=oA from hoA.symm,show(Obj.cells #[u0,u1,u2,u3,u4,u5,u6,u7,u8,u9,u10] 45)=oU from hoU.symm]
 obtain⟨wA,hwA⟩: ∃x,x=w3.alloc oA:=⟨_,rfl⟩;obtain⟨wU,hwU⟩: ∃x,x=wA.alloc oU:=⟨_,rfl⟩;rw[<-hwA,<-hwU];have sA:wA.heap.size=w3.heap.size+1:=by rw[hwA];exact World.size_alloc _ _
 have sU:wU.heap.size=w3.heap.size+2:=by rw[hwU,World.size_alloc,sA]
 have Z5:Sim (wO w0 (lS (lS w0.O w3.heap.size oA) wA.heap.size oU)) f4 Y3 (up Hc 4) wU:=by
  have ZA:Sim (wO w0 (lS w0.O w3.heap.size oA)) f4 Y3 (up Hc 4) wA:=by
   rw[hwA];exact qC (O:=w0.O) (sO Z4 hnA) (World.alloc_heap_new _ _) (tM Z4)
  rw[hwU];exact qC (sO ZA hnU) (World.alloc_heap_new _ _) (tM ZA)
 refine wpIn_block ?_;refine wpIn_rangeFunc ?_;intro fn _;obtain⟨wD,hwD⟩: ∃x,x=wU.alloc (.deferred (aa [])):=⟨_,rfl⟩;obtain⟨wL,hwL⟩: ∃x,x=wD.alloc (.loop (Ak fn ts' wU.heap.size .ready ae)):=⟨_,rfl⟩;have sD:wD.heap.size=w3.heap.size+3:=by rw[hwD,World.size_alloc,sU]
 obtain⟨O',hO'⟩: ∃O',O'=lS (lS (lS (lS w0.O w3.heap.size oA) wA.heap.size oU) wU.heap.size (.deferred (aa []))) wD.heap.size (.loop (Ak fn ts' wU.heap.size .ready ae)):=⟨_,rfl⟩;have Z6:Sim (wO w0 O') f4 Y3 (up Hc 4) wL:=by
  have ZD:Sim (wO w0 (lS (lS (lS w0.O w3.heap.size oA) wA.heap.size oU) wU.heap.size (.deferred (aa [])))) f4 Y3 (up Hc 4) wD:=by
   rw[hwD];exact qC (sO Z5 (λC t fr h=>by cases h)) (World.alloc_heap_new _ _) (tM Z5)
  rw[hO',hwL];exact qC (sO ZD (λC t fr h=>by cases h)) (World.alloc_heap_new _ _) (tM ZD)
 have oL:O' wD.heap.size=aa (.loop (Ak fn ts' wU.heap.size .ready ae)):=by rw[hO'];exact Ai _ _ _
 have oD:O' wU.heap.size=aa (.deferred (aa [])):=by rw[hO'];unfold lS;rw[bI (by omega),bJ rfl]
 have oU2:O' wA.heap.size=aa oU:=by rw[hO'];unfold lS;rw[bI (by omega),bI (by omega),bJ rfl]
 have oA2:O' w3.heap.size=aa oA:=by rw[hO'];unfold lS;rw[bI (by omega),bI (by omega),bI (by omega),bJ rfl]
 have leW:w0.heap.size<=w3.heap.size:=Z4.kept.size;have o0: ∀k o,w0.O k=aa o->O' k=aa o:=λk o hk=>by
  have:=(oq.1 (Z4.kept.oth k o hk).1).1;rw[hO'];unfold lS;rw[bI (by omega),bI (by omega),bI (by omega),bI (by omega)];exact hk
 refine⟨wD.heap.size,[{target:= .collected wU.heap.size,args:= #[]}],wL,{target:= .fn (.func 117) #[.pointer (aa ⟨w3.heap.size,0,ae⟩),.pointer (aa ⟨w3.heap.size+1,0,ae⟩)],args:= #[.func (.yield wD.heap.size) #[] #[]]},wL,117,
  #[.func (.yield wD.heap.size) #[] #[]]++ #[.pointer (aa ⟨w3.heap.size,0,ae⟩),.pointer (aa ⟨w3.heap.size+1,0,ae⟩)],wL,?_,?_,?_,?_,?_,?_⟩
 .rw[show wD.heap.size=wU.heap.size+1 by omega,hwL,hwD]
  exact run_enterLoop_outer (P:=f4) (w:=wU) fn ts' #[62] parts.1 parts.2
 .simp only[resolve];rw[fH,h61];simp[go_sem]
 .intro f' jl;trivial
 .have eg:=enters_of Tryz.func117 (by kernel_rfl) rfl
  simp[invoke,go_sem,eg]
 .intro h;cases h
 .rw[<-sA];have eargs:(#[.func (.yield wD.heap.size) #[] #[]]++ #[.pointer (aa ⟨w3.heap.size,0,ae⟩),.pointer (aa ⟨wA.heap.size,0,ae⟩)]:Array av)= #[.func (.yield wD.heap.size) #[] #[],.pointer (aa ⟨w3.heap.size,0,ae⟩),.pointer (aa ⟨wA.heap.size,0,ae⟩)]:=rfl;rw[eargs];have r5:VR Y3 (S3.at 5) (ts'.getD 5 undef):=by rw[h5];exact q5
  refine(bNg (w0:=w0) (O:=O') (D:=wU.heap.size) (fn:=fn) hcall pd oL (by omega) (by rw[<-hoU];exact oU2) (by rw[<-hoA];exact oA2) qn g70 ru g71 rsl g72 g73 g5 r5 Z6).mono ?_
  rintro e W7 ⟨⟨v,rfl⟩,gl,hs5,Y7,Z7,E7,n7⟩;obtain⟨rfl,rfl,x,hlx,hx4⟩:=aQM (hrest gl);have hkey:r=x/\H'=up H4 2:=by
   simp only[oZ,gc,fP,uF,aK,aA,aB,vH,hx4]at h;exact⟨h.1.symm,h.2.symm⟩
  obtain⟨rfl,rfl⟩:=hkey;have leL:w0.heap.size<=wD.heap.size:=by omega
  refine⟨ae,_,run_endLoop (Z7.kept.oth _ _ oL).1 (by intro h;cases h),?_⟩
  have Z8:=Bt Z7 oL leL (o':= .loop {Ak fn ts' wU.heap.size .ready ae with state:= .exhausted}) (λC t fr h=>by cases h)
  generalize W7.putObj wD.heap.size (.loop {Ak fn ts' wU.heap.size .ready ae with state:= .exhausted})=w8 at*;have oD8:lS (GD O' wD.heap.size) wD.heap.size (.loop {Ak fn ts' wU.heap.size .ready ae with state:= .exhausted}) wU.heap.size=aa (.deferred (aa [])):=by
   unfold lS GD;rw[bI (by omega),bI (by omega)];exact oD
  have Z9:=Bt Z8 oD8 (by omega) (o':= .deferred ae) (λC t fr h=>by cases h)
  have hD8:=(Z8.kept.oth _ _ oD8).1;show Exit.inBlock 3 _ .normal _ _;simp only[Exit.inBlock,Exit.then];have r7:VR Y7 (S4.at 5) (ts'.getD 5 undef):=by rw[hs5];exact r5.mono E7
  obtain⟨x',hx1,rx⟩:=yJ (Z8.next (n:=H4.next+2) (iq _ _)) r7 hlx
  refine wpIn_seq ?_
  conv=>arg 4;unfold pE aCB;dsimp only[Tryz.f39,Option.getD]
  refine wpIn_region_lit ?_;refine uD rfl (pW rfl hx1) ?_;refine uD rfl (a5g rfl _) ?_;refine wpListIn_nil ?_;simp only[Exit.then];refine wpIn_ret ?_;refine⟨by simp,.inl ⟨wU.heap.size,_,rfl,run_takeDeferred hD8,?_⟩⟩
  refine⟨_,results_tmp rfl _ _ _,?_⟩;rw[<-hR];have hv:(((ts'.setIfInBounds 67 x').setIfInBounds 4 ((ts'.setIfInBounds 67 x').getD 67 undef)).getD 4 undef)=x':=by rw[eX (by simp;omega),eX (by omega)]
  refine⟨Y7,x',?_,rx,?_,EE3.trans (E7.mono (n':=Hc.next) (by show Hc.next<=Hc.next+4;omega)) NN3,?_⟩
  .exact congrArg Ending.returned hv
  .have Z10:=yY (O':=w0.O) Z9 (λk o hk=>by
    have hb:=(oq.1 (Z4.kept.oth k o hk).1).1;simp only[lS,GD];rw[bI (by omega),bI (by omega),bI (by omega),bI (by omega)];exact o0 k o hk)
   exact Sim.next (n:=H4.next+2) Z10 (iq _ _)
  .have:Hc.next+4<=H4.next:=n7
   show H.next<=H4.next+2;omega
end
end Go.Rf
namespace Go.Rf
open Go.AI Go.Proofs
def a4R{f:Nat}{fn:Func}(h:cdP.funcs[f]?=aa fn):(f=39/\fn=tyF)∨(Tryz.prog.funcs[f]?=aa fn/\fn∈cdP.funcs.toList):=by
 have h1:(Tryz.prog.funcs.toList.set 39 tyF)[f]?=aa fn:=by simpa [cdP]using h
 have hm:fn∈cdP.funcs.toList:=List.mem_of_getElem? h1;by_cases e:f=39
 .subst e;left;rw[List.getElem?_set]at h1;simp only[bQ]at h1;split at h1
  .exact⟨rfl,(Option.some.inj h1).symm⟩
  .cases h1
 .right;rw[List.getElem?_set,bI (Ne.symm e)]at h1;exact⟨by simpa using h1,hm⟩
def code_ok(h:cdP.funcs.toList.all (rX f4)=ah)(w0:W0):aLF w0 f4 cdP:=λf fn c hf hb=>by
 rcases a4R hf with⟨rfl,rfl⟩|⟨h1,h2⟩
 .right;have:c=ZN aCB:=(Option.some.inj hb).symm;subst this;exact aCA w0
 .exact .inl ⟨h1,bK.1 h _ h2⟩
end Go.Rf
