import Derived.Test.YtjapdpcodgaoaaaGreatDoorKg
open Bool renaming true->ah
open Go.Proofs.Tryz renaming prog->f4
set_option linter.all false
namespace Go.TV
open Go.AI Go.PI Go.Proofs
set_option maxRecDepth 100000
noncomputable section
def JZ: ∀{l:au (Nat×cS)} {f:Nat} {x:cS},BZ l f=some x->x.sig.f=f/\∃i,(i,x)∈l
 |a::l,f,x,h=>by
  simp only[BZ]at h;cases hb:Nat.beq a.2.sig.f f with
  |true=>
   rw[hb]at h;simp only[aI,aA]at h;have:=aE hb;subst h;exact⟨this,a.1,aH ..⟩
  |false=>
   rw[hb]at h;obtain⟨h1,i,h2⟩:=JZ h;exact⟨h1,i,aG _ h2⟩
def JY:au (Nat×cS)->Nat->f9 (Nat×cS)
 |[],_=>none
 |x::l,f=>bif Nat.beq x.2.sig.f f then some x else JY l f
def aBe: ∀{l:au (Nat×cS)} {f:Nat},BZ l f=(JY l f).map (·.2)
 |[],_=>rfl
 |x::l,f=>by
  simp only[BZ,JY];cases Nat.beq x.2.sig.f f with
  |true=>rfl
  |false=>exact aBe
def JX: ∀{l:au (Nat×cS)} {f:Nat} {x:Nat×cS},JY l f=some x->x∈l
 |a::l,f,x,h=>by
  simp only[JY]at h;cases hb:Nat.beq a.2.sig.f f with
  |true=>rw[hb]at h;cases h;exact aH ..
  |false=>rw[hb]at h;exact aG _ (JX h)
def a6r(l:au (Nat×cS))(k:Nat):Bool:=match l with
 |[]=>ah
 |x::l=>Nat.ble k x.1&&a6r l (x.1+1)
def Tp: ∀{l:au (Nat×cS)} {k:Nat} {x:Nat×cS},a6r l k=ah->x∈l->k<=x.1
 |a::l,k,x,h,hm=>by
  simp only[a6r,aC]at h;cases hm with
  |head=>exact bR h.1
  |tail _ hm=>have:=Tp h.2 hm;have:=bR h.1;omega
def aEx: ∀{l:au (Nat×cS)} {k:Nat} {x y:Nat×cS},a6r l k=ah->x∈l->y∈l->x.1=y.1->x=y
 |a::l,k,x,y,h,hx,hy,e=>by
  simp only[a6r,aC]at h;cases hx with
  |head=>cases hy with
   |head=>rfl
   |tail _ hy=>have:=Tp h.2 hy;omega
  |tail _ hx=>cases hy with
   |head=>have:=Tp h.2 hx;omega
   |tail _ hy=>exact aEx h.2 hx hy e
def isF(x:Nat×cS):Bool:=match JY insL x.2.sig.f with|some y=>Nat.beq y.1 x.1|none=>false
def aPj:(insL.all λx=>isF x||eM x.1 [])=ah:=by kernel_rfl
def aWv:a6r insL 0=ah:=by kernel_rfl
def a2h: ∀i x,tP insL i=some x->bJI Go.Rf.cdP insL x:=by
 intro i x h;have hm:=zN h;have h2:=bK.1 aPj _ hm;cases hf:isF (i,x)with
 |true=>
  unfold isF at hf;split at hf
  .rename_i y hy;have:=aEx aWv (JX hy) hm (aE hf);subst this;exact⟨x,by rw[aBe,hy];rfl,rfl⟩
  .cases hf
 |false=>
  rw[hf]at h2;cases h2
def bCt: ∀i x,tP insL i=some x->bJI Go.Rf.cdP insL x:=a2h
def bEg(f:Nat):Bool:=match Go.Rf.cdP.funcs[f]? with|some fn=>fn.body.isSome|none=>false
def aHM:(insL.all λx=>bEg x.2.sig.f)=ah:=by kernel_rfl
def bCs: ∀f x,BZ insL f=some x->∃fn c,Go.Rf.cdP.funcs[f]?=some fn/\fn.body=some c:=λf x h=>by
 obtain⟨rfl,i,hi⟩:=JZ h;have h2:=bK.1 aHM _ hi;unfold bEg at h2;split at h2
 .rename_i fn gt;cases hb:fn.body with
  |none=>rw[hb]at h2;cases h2
  |some c=>exact⟨fn,c,gt,hb⟩
 .cases h2
def aIB{N:Type}{p:N->Bool}(n:Nat): ∀(m:Nat) (l:au N),l.length<=m*n->(∀k,k<m->((l.drop (k*n)).take n).all p=ah)->l.all p=ah
 |0,l,h,_=>by
  have:l=[]:=List.length_eq_zero_iff.1 (by omega)
  subst this;rfl
 |m+1,l,h,hk=>by
  have h0:=hk 0 (Nat.succ_pos m);rw[Nat.zero_mul,List.drop_zero]at h0;have h1:(l.drop n).all p=ah:=aIB n m (l.drop n) (by rw[List.length_drop];rw[Nat.succ_mul]at h;omega) λk hk2=>by
   have:=hk (k+1) (by omega)
   rw[List.drop_drop,show n+k*n=(k+1)*n by rw[Nat.succ_mul,Nat.add_comm]]
   exact this
  rw[<-List.take_append_drop n l,List.all_append,h0,h1];rfl
def fsL:au Func:=(Go.Rf.cdP.funcs.toList).drop 1
def ck(k:Nat):Bool:=((fsL.drop (k*4)).take 4).all (rX f4)
def k0:ck 0=ah:=by kernel_rfl
def k1:ck 1=ah:=by kernel_rfl
def k2:ck 2=ah:=by kernel_rfl
def k3:ck 3=ah:=by kernel_rfl
def k4:ck 4=ah:=by kernel_rfl
def k5:ck 5=ah:=by kernel_rfl
def k6:ck 6=ah:=by kernel_rfl
def k7:ck 7=ah:=by kernel_rfl
def k8:ck 8=ah:=by kernel_rfl
def k9:ck 9=ah:=by kernel_rfl
def bGX:ck 10=ah:=by kernel_rfl
def bGW:ck 11=ah:=by kernel_rfl
def bGV:ck 12=ah:=by kernel_rfl
def bOn:ck 13=ah:=by kernel_rfl
def k14:ck 14=ah:=by kernel_rfl
def k15:ck 15=ah:=by kernel_rfl
def bCI:ck 16=ah:=by kernel_rfl
def bJ6:ck 17=ah:=by kernel_rfl
def k18:ck 18=ah:=by kernel_rfl
def k19:ck 19=ah:=by kernel_rfl
def k20:ck 20=ah:=by kernel_rfl
def k21:ck 21=ah:=by kernel_rfl
def k22:ck 22=ah:=by kernel_rfl
def k23:ck 23=ah:=by kernel_rfl
def k24:ck 24=ah:=by kernel_rfl
def k25:ck 25=ah:=by kernel_rfl
def k26:ck 26=ah:=by kernel_rfl
def k27:ck 27=ah:=by kernel_rfl
def k28:ck 28=ah:=by kernel_rfl
def k29:ck 29=ah:=by kernel_rfl
def k30:ck 30=ah:=by kernel_rfl
def k31:ck 31=ah:=by kernel_rfl
def k32:ck 32=ah:=by kernel_rfl
def k33:ck 33=ah:=by kernel_rfl
def k34:ck 34=ah:=by kernel_rfl
def k35:ck 35=ah:=by kernel_rfl
def k36:ck 36=ah:=by kernel_rfl
def k37:ck 37=ah:=by kernel_rfl
def k38:ck 38=ah:=by kernel_rfl
def k39:ck 39=ah:=by kernel_rfl
def k40:ck 40=ah:=by kernel_rfl
def k41:ck 41=ah:=by kernel_rfl
def k42:ck 42=ah:=by kernel_rfl
def k43:ck 43=ah:=by kernel_rfl
def k44:ck 44=ah:=by kernel_rfl
def k45:ck 45=ah:=by kernel_rfl
def k46:ck 46=ah:=by kernel_rfl
def k47:ck 47=ah:=by kernel_rfl
def k48:ck 48=ah:=by kernel_rfl
def k49:ck 49=ah:=by kernel_rfl
def k50:ck 50=ah:=by kernel_rfl
def k51:ck 51=ah:=by kernel_rfl
def k52:ck 52=ah:=by kernel_rfl
def k53:ck 53=ah:=by kernel_rfl
def k54:ck 54=ah:=by kernel_rfl
def k55:ck 55=ah:=by kernel_rfl
def k56:ck 56=ah:=by kernel_rfl
def k57:ck 57=ah:=by kernel_rfl
def k58:ck 58=ah:=by kernel_rfl
def k59:ck 59=ah:=by kernel_rfl
def k60:ck 60=ah:=by kernel_rfl
def k61:ck 61=ah:=by kernel_rfl
def k62:ck 62=ah:=by kernel_rfl
def k63:ck 63=ah:=by kernel_rfl
def k64:ck 64=ah:=by kernel_rfl
def a2g:((Go.Rf.cdP.funcs.toList).take 1).all (rX f4)=ah:=by kernel_rfl
def Up:(Go.Rf.cdP.funcs.toList).all (rX f4)=ah:=by
 have h:fsL.all (rX f4)=ah:=aIB 4 65 _ (bR (by kernel_rfl)) λk hk=>by
  match k,hk with
  |0,_=>exact k0
  |1,_=>exact k1
  |2,_=>exact k2
  |3,_=>exact k3
  |4,_=>exact k4
  |5,_=>exact k5
  |6,_=>exact k6
  |7,_=>exact k7
  |8,_=>exact k8
  |9,_=>exact k9
  |10,_=>exact bGX
  |11,_=>exact bGW
  |12,_=>exact bGV
  |13,_=>exact bOn
  |14,_=>exact k14
  |15,_=>exact k15
  |16,_=>exact bCI
  |17,_=>exact bJ6
  |18,_=>exact k18
  |19,_=>exact k19
  |20,_=>exact k20
  |21,_=>exact k21
  |22,_=>exact k22
  |23,_=>exact k23
  |24,_=>exact k24
  |25,_=>exact k25
  |26,_=>exact k26
  |27,_=>exact k27
  |28,_=>exact k28
  |29,_=>exact k29
  |30,_=>exact k30
  |31,_=>exact k31
  |32,_=>exact k32
  |33,_=>exact k33
  |34,_=>exact k34
  |35,_=>exact k35
  |36,_=>exact k36
  |37,_=>exact k37
  |38,_=>exact k38
  |39,_=>exact k39
  |40,_=>exact k40
  |41,_=>exact k41
  |42,_=>exact k42
  |43,_=>exact k43
  |44,_=>exact k44
  |45,_=>exact k45
  |46,_=>exact k46
  |47,_=>exact k47
  |48,_=>exact k48
  |49,_=>exact k49
  |50,_=>exact k50
  |51,_=>exact k51
  |52,_=>exact k52
  |53,_=>exact k53
  |54,_=>exact k54
  |55,_=>exact k55
  |56,_=>exact k56
  |57,_=>exact k57
  |58,_=>exact k58
  |59,_=>exact k59
  |60,_=>exact k60
  |61,_=>exact k61
  |62,_=>exact k62
  |63,_=>exact k63
  |64,_=>exact k64
  |n+65,h=>omega
 have e:=List.take_append_drop 1 Go.Rf.cdP.funcs.toList;unfold fsL at h;rw[<-e,List.all_append,a2g,Bool.true_and];exact h
def aQ3:(insL.all λx=>OC f4 x.2.sig.f x.2.sig.ps.length)=ah:=by kernel_rfl
def a5k: ∀i s,tpI.sig i=some s->OC f4 s.f s.ps.length=ah:=by
 intro i s h;have h':K7 insL i=some s:=h;unfold K7 at h';rw[aF]at h';obtain⟨x,hx,rfl⟩:=h';exact bK.1 aQ3 _ (zN hx)
def aHc:Tryz.prog.toTables.follows .mixedOrders=ah:=by kernel_rfl
end
end Go.TV
