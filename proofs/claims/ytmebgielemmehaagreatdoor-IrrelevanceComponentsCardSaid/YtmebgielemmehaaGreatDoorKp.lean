import Derived.Test.YtmebgielemmehaaGreatDoorKo
set_option linter.unusedVariables false
set_option linter.unusedSimpArgs false
set_option linter.constructorNameAsVariable false
set_option linter.defProp false
namespace Go.TV
open Go.AI Go.PI Go.Proofs
set_option maxRecDepth 100000
def DZ: ∀{l:List (Nat×cM)} {f:Nat} {x:cM},vZ l f=some x->x.sig.f=f/\∃i,(i,x)∈l
 |a::l,f,x,h=>by
  simp only[vZ]at h;cases hb:Nat.beq a.2.sig.f f with
  |true=>
   rw[hb]at h;simp only[aI,aA]at h;have:=aE hb;subst h;exact⟨this,a.1,aH ..⟩
  |false=>
   rw[hb]at h;obtain⟨h1,i,h2⟩:=DZ h;exact⟨h1,i,aG _ h2⟩
def DY:List (Nat×cM)->Nat->Option (Nat×cM)
 |[],_=>none
 |x::l,f=>bif Nat.beq x.2.sig.f f then some x else DY l f
def Qn: ∀{l:List (Nat×cM)} {f:Nat},vZ l f=(DY l f).map (·.2)
 |[],_=>rfl
 |x::l,f=>by
  simp only[vZ,DY];cases Nat.beq x.2.sig.f f with
  |true=>rfl
  |false=>exact Qn
def DX: ∀{l:List (Nat×cM)} {f:Nat} {x:Nat×cM},DY l f=some x->x∈l
 |a::l,f,x,h=>by
  simp only[DY]at h;cases hb:Nat.beq a.2.sig.f f with
  |true=>rw[hb]at h;cases h;exact aH ..
  |false=>rw[hb]at h;exact aG _ (DX h)
def aOy(l:List (Nat×cM))(k:Nat):Bool:=match l with
 |[]=>true
 |x::l=>Nat.ble k x.1&&aOy l (x.1+1)
def Lh: ∀{l:List (Nat×cM)} {k:Nat} {x:Nat×cM},aOy l k=true->x∈l->k<=x.1
 |a::l,k,x,h,hm=>by
  simp only[aOy,aC]at h;cases hm with
  |head=>exact bP h.1
  |tail _ hm=>have:=Lh h.2 hm;have:=bP h.1;omega
def Uc: ∀{l:List (Nat×cM)} {k:Nat} {x y:Nat×cM},aOy l k=true->x∈l->y∈l->x.1=y.1->x=y
 |a::l,k,x,y,h,hx,hy,e=>by
  simp only[aOy,aC]at h;cases hx with
  |head=>cases hy with
   |head=>rfl
   |tail _ hy=>have:=Lh h.2 hy;omega
  |tail _ hx=>cases hy with
   |head=>have:=Lh h.2 hx;omega
   |tail _ hy=>exact Uc h.2 hx hy e
def isF(x:Nat×cM):Bool:=match DY insL x.2.sig.f with|some y=>Nat.beq y.1 x.1|none=>false
def aCD:(insL.all λx=>isF x||dQ x.1 [])=true:=by kernel_rfl
def aJu:aOy insL 0=true:=by kernel_rfl
def aLX: ∀i x,pL insL i=some x->a0I Tryz.prog insL x:=by
 intro i x h;have hm:=pJ h;have h2:=bJ.1 aCD _ hm;cases hf:isF (i,x)with
 |true=>
  unfold isF at hf;split at hf
  .rename_i y hy;have:=Uc aJu (DX hy) hm (aE hf);subst this;exact⟨x,by rw[Qn,hy];rfl,rfl⟩
  .cases hf
 |false=>
  rw[hf]at h2;cases h2
def V2: ∀i x,pL insL i=some x->a0I Tryz.prog insL x:=aLX
noncomputable def aVz(f:Nat):Bool:=match Tryz.prog.funcs[f]? with|some fn=>fn.body.isSome|none=>false
def WA:(insL.all λx=>aVz x.2.sig.f)=true:=by kernel_rfl
def V1: ∀f x,vZ insL f=some x->∃fn c,Tryz.prog.funcs[f]?=some fn/\fn.body=some c:=λf x h=>by
 obtain⟨rfl,i,hi⟩:=DZ h;have h2:=bJ.1 WA _ hi;unfold aVz at h2;split at h2
 .rename_i fn gh;cases hb:fn.body with
  |none=>rw[hb]at h2;cases h2
  |some c=>exact⟨fn,c,gh,hb⟩
 .cases h2
def Xm{N:Type}{p:N->Bool}(n:Nat): ∀(m:Nat) (l:List N),l.length<=m*n->(∀k,k<m->((l.drop (k*n)).take n).all p=true)->l.all p=true
 |0,l,h,_=>by
  have:l=[]:=List.length_eq_zero_iff.1 (by omega)
  subst this;rfl
 |m+1,l,h,hk=>by
  have h0:=hk 0 (Nat.succ_pos m);rw[Nat.zero_mul,List.drop_zero]at h0;have h1:(l.drop n).all p=true:=Xm n m (l.drop n) (by rw[List.length_drop];rw[Nat.succ_mul]at h;omega) λk hk2=>by
   have:=hk (k+1) (by omega)
   rw[List.drop_drop,show n+k*n=(k+1)*n by rw[Nat.succ_mul,Nat.add_comm]]
   exact this
  rw[<-List.take_append_drop n l,List.all_append,h0,h1];rfl
noncomputable def fsL:List Func:=(Tryz.prog.funcs.toList).drop 0
noncomputable def ck(k:Nat):Bool:=((fsL.drop (k*4)).take 4).all (pZ Tryz.prog)
def k0:ck 0=true:=by kernel_rfl
def k1:ck 1=true:=by kernel_rfl
def k2:ck 2=true:=by kernel_rfl
def k3:ck 3=true:=by kernel_rfl
def k4:ck 4=true:=by kernel_rfl
def k5:ck 5=true:=by kernel_rfl
def k6:ck 6=true:=by kernel_rfl
def k7:ck 7=true:=by kernel_rfl
def k8:ck 8=true:=by kernel_rfl
def k9:ck 9=true:=by kernel_rfl
def aXK:ck 10=true:=by kernel_rfl
def aXJ:ck 11=true:=by kernel_rfl
def aXI:ck 12=true:=by kernel_rfl
def a3R:ck 13=true:=by kernel_rfl
def k14:ck 14=true:=by kernel_rfl
def k15:ck 15=true:=by kernel_rfl
def aTS:ck 16=true:=by kernel_rfl
def a08:ck 17=true:=by kernel_rfl
def k18:ck 18=true:=by kernel_rfl
def k19:ck 19=true:=by kernel_rfl
def k20:ck 20=true:=by kernel_rfl
def k21:ck 21=true:=by kernel_rfl
def k22:ck 22=true:=by kernel_rfl
def k23:ck 23=true:=by kernel_rfl
def k24:ck 24=true:=by kernel_rfl
def k25:ck 25=true:=by kernel_rfl
def k26:ck 26=true:=by kernel_rfl
def k27:ck 27=true:=by kernel_rfl
def k28:ck 28=true:=by kernel_rfl
def k29:ck 29=true:=by kernel_rfl
def k30:ck 30=true:=by kernel_rfl
def k31:ck 31=true:=by kernel_rfl
def k32:ck 32=true:=by kernel_rfl
def k33:ck 33=true:=by kernel_rfl
def k34:ck 34=true:=by kernel_rfl
def k35:ck 35=true:=by kernel_rfl
def k36:ck 36=true:=by kernel_rfl
def k37:ck 37=true:=by kernel_rfl
def k38:ck 38=true:=by kernel_rfl
def k39:ck 39=true:=by kernel_rfl
def k40:ck 40=true:=by kernel_rfl
def k41:ck 41=true:=by kernel_rfl
def k42:ck 42=true:=by kernel_rfl
def k43:ck 43=true:=by kernel_rfl
def k44:ck 44=true:=by kernel_rfl
def k45:ck 45=true:=by kernel_rfl
def k46:ck 46=true:=by kernel_rfl
def k47:ck 47=true:=by kernel_rfl
def k48:ck 48=true:=by kernel_rfl
def k49:ck 49=true:=by kernel_rfl
def k50:ck 50=true:=by kernel_rfl
def k51:ck 51=true:=by kernel_rfl
def k52:ck 52=true:=by kernel_rfl
def k53:ck 53=true:=by kernel_rfl
def k54:ck 54=true:=by kernel_rfl
def k55:ck 55=true:=by kernel_rfl
def k56:ck 56=true:=by kernel_rfl
def k57:ck 57=true:=by kernel_rfl
def k58:ck 58=true:=by kernel_rfl
def k59:ck 59=true:=by kernel_rfl
def k60:ck 60=true:=by kernel_rfl
def k61:ck 61=true:=by kernel_rfl
def k62:ck 62=true:=by kernel_rfl
def k63:ck 63=true:=by kernel_rfl
def k64:ck 64=true:=by kernel_rfl
def k65:ck 65=true:=by kernel_rfl
def k66:ck 66=true:=by kernel_rfl
def k67:ck 67=true:=by kernel_rfl
def k68:ck 68=true:=by kernel_rfl
def k69:ck 69=true:=by kernel_rfl
def k70:ck 70=true:=by kernel_rfl
def k71:ck 71=true:=by kernel_rfl
def k72:ck 72=true:=by kernel_rfl
def k73:ck 73=true:=by kernel_rfl
def k74:ck 74=true:=by kernel_rfl
def k75:ck 75=true:=by kernel_rfl
def k76:ck 76=true:=by kernel_rfl
def k77:ck 77=true:=by kernel_rfl
def k78:ck 78=true:=by kernel_rfl
def k79:ck 79=true:=by kernel_rfl
def k80:ck 80=true:=by kernel_rfl
def k81:ck 81=true:=by kernel_rfl
def k82:ck 82=true:=by kernel_rfl
def aLV:((Tryz.prog.funcs.toList).take 0).all (pZ Tryz.prog)=true:=by kernel_rfl
def Fe:(Tryz.prog.funcs.toList).all (pZ Tryz.prog)=true:=by
 have h:fsL.all (pZ Tryz.prog)=true:=Xm 4 83 _ (bP (by kernel_rfl)) λk hk=>by
  match k,hk with
  |0,_=>exact k0
  |1,_=>exact k1
  |2,_=>exact k2
  |3,_=>exact k3
  |4,_=>exact k4
  |5,_=>exact k5
  |6,_=>exact k6
  |7,_=>exact k7
  |8,_=>exact k8
  |9,_=>exact k9
  |10,_=>exact aXK
  |11,_=>exact aXJ
  |12,_=>exact aXI
  |13,_=>exact a3R
  |14,_=>exact k14
  |15,_=>exact k15
  |16,_=>exact aTS
  |17,_=>exact a08
  |18,_=>exact k18
  |19,_=>exact k19
  |20,_=>exact k20
  |21,_=>exact k21
  |22,_=>exact k22
  |23,_=>exact k23
  |24,_=>exact k24
  |25,_=>exact k25
  |26,_=>exact k26
  |27,_=>exact k27
  |28,_=>exact k28
  |29,_=>exact k29
  |30,_=>exact k30
  |31,_=>exact k31
  |32,_=>exact k32
  |33,_=>exact k33
  |34,_=>exact k34
  |35,_=>exact k35
  |36,_=>exact k36
  |37,_=>exact k37
  |38,_=>exact k38
  |39,_=>exact k39
  |40,_=>exact k40
  |41,_=>exact k41
  |42,_=>exact k42
  |43,_=>exact k43
  |44,_=>exact k44
  |45,_=>exact k45
  |46,_=>exact k46
  |47,_=>exact k47
  |48,_=>exact k48
  |49,_=>exact k49
  |50,_=>exact k50
  |51,_=>exact k51
  |52,_=>exact k52
  |53,_=>exact k53
  |54,_=>exact k54
  |55,_=>exact k55
  |56,_=>exact k56
  |57,_=>exact k57
  |58,_=>exact k58
  |59,_=>exact k59
  |60,_=>exact k60
  |61,_=>exact k61
  |62,_=>exact k62
  |63,_=>exact k63
  |64,_=>exact k64
  |65,_=>exact k65
  |66,_=>exact k66
  |67,_=>exact k67
  |68,_=>exact k68
  |69,_=>exact k69
  |70,_=>exact k70
  |71,_=>exact k71
  |72,_=>exact k72
  |73,_=>exact k73
  |74,_=>exact k74
  |75,_=>exact k75
  |76,_=>exact k76
  |77,_=>exact k77
  |78,_=>exact k78
  |79,_=>exact k79
  |80,_=>exact k80
  |81,_=>exact k81
  |82,_=>exact k82
  |n+83,h=>omega
 have e:=List.take_append_drop 0 Tryz.prog.funcs.toList;unfold fsL at h;rw[<-e,List.all_append,aLV,Bool.true_and];exact h
def aEB:(insL.all λx=>Gd Tryz.prog x.2.sig.f x.2.sig.ps.length)=true:=by kernel_rfl
def XL: ∀i s,tpI.sig i=some s->Gd Tryz.prog s.f s.ps.length=true:=by
 intro i s h;have h':tJ insL i=some s:=h;unfold tJ at h';rw[aF]at h';obtain⟨x,hx,rfl⟩:=h';exact bJ.1 aEB _ (pJ hx)
def Bu:Tryz.prog.toTables.follows .mixedOrders=true:=by kernel_rfl
end Go.TV
