import Derived.Test.YtgfhobcfdppbdaaGreatDoorKg
open Bool renaming true->ae
set_option linter.unusedVariables false
set_option linter.unusedSimpArgs false
set_option linter.constructorNameAsVariable false
set_option linter.defProp false
namespace Go.TV
open Go.AI Go.PI Go.Proofs
set_option maxRecDepth 100000
def IF: ∀{l:List (Nat×cC)} {f:Nat} {x:cC},Ba l f=some x->x.sig.f=f/\∃i,(i,x)∈l
 |a::l,f,x,h=>by
  simp only[Ba]at h;cases hb:Nat.beq a.2.sig.f f with
  |true=>
   rw[hb]at h;simp only[aI,aA]at h;have:=aE hb;subst h;exact⟨this,a.1,aH ..⟩
  |false=>
   rw[hb]at h;obtain⟨h1,i,h2⟩:=IF h;exact⟨h1,i,aG _ h2⟩
def IE:List (Nat×cC)->Nat->Option (Nat×cC)
 |[],_=>none
 |x::l,f=>bif Nat.beq x.2.sig.f f then some x else IE l f
def aAO: ∀{l:List (Nat×cC)} {f:Nat},Ba l f=(IE l f).map (·.2)
 |[],_=>rfl
 |x::l,f=>by
  simp only[Ba,IE];cases Nat.beq x.2.sig.f f with
  |true=>rfl
  |false=>exact aAO
def ID: ∀{l:List (Nat×cC)} {f:Nat} {x:Nat×cC},IE l f=some x->x∈l
 |a::l,f,x,h=>by
  simp only[IE]at h;cases hb:Nat.beq a.2.sig.f f with
  |true=>rw[hb]at h;cases h;exact aH ..
  |false=>rw[hb]at h;exact aG _ (ID h)
def a8G(l:List (Nat×cC))(k:Nat):Bool:=match l with
 |[]=>ae
 |x::l=>Nat.ble k x.1&&a8G l (x.1+1)
def SJ: ∀{l:List (Nat×cC)} {k:Nat} {x:Nat×cC},a8G l k=ae->x∈l->k<=x.1
 |a::l,k,x,h,hm=>by
  simp only[a8G,aC]at h;cases hm with
  |head=>exact bK h.1
  |tail _ hm=>have:=SJ h.2 hm;have:=bK h.1;omega
def aDW: ∀{l:List (Nat×cC)} {k:Nat} {x y:Nat×cC},a8G l k=ae->x∈l->y∈l->x.1=y.1->x=y
 |a::l,k,x,y,h,hx,hy,e=>by
  simp only[a8G,aC]at h;cases hx with
  |head=>cases hy with
   |head=>rfl
   |tail _ hy=>have:=SJ h.2 hy;omega
  |tail _ hx=>cases hy with
   |head=>have:=SJ h.2 hx;omega
   |tail _ hy=>exact aDW h.2 hx hy e
def isF(x:Nat×cC):Bool:=match IE insL x.2.sig.f with|some y=>Nat.beq y.1 x.1|none=>false
def aPa:(insL.all λx=>isF x||eA x.1 [])=ae:=by kernel_rfl
def aWt:a8G insL 0=ae:=by kernel_rfl
def a3O: ∀i x,rN insL i=some x->bKW Go.Rf.cdG insL x:=by
 intro i x h;have hm:=xI h;have h2:=bJ.1 aPa _ hm;cases hf:isF (i,x)with
 |true=>
  unfold isF at hf;split at hf
  .rename_i y hy;have:=aDW aWt (ID hy) hm (aE hf);subst this;exact⟨x,by rw[aAO,hy];rfl,rfl⟩
  .cases hf
 |false=>
  rw[hf]at h2;cases h2
def bDZ: ∀i x,rN insL i=some x->bKW Go.Rf.cdG insL x:=a3O
noncomputable def bFE(f:Nat):Bool:=match Go.Rf.cdG.funcs[f]? with|some fn=>fn.body.isSome|none=>false
def aHt:(insL.all λx=>bFE x.2.sig.f)=ae:=by kernel_rfl
def bDY: ∀f x,Ba insL f=some x->∃fn c,Go.Rf.cdG.funcs[f]?=some fn/\fn.body=some c:=λf x h=>by
 obtain⟨rfl,i,hi⟩:=IF h;have h2:=bJ.1 aHt _ hi;unfold bFE at h2;split at h2
 .rename_i fn fy;cases hb:fn.body with
  |none=>rw[hb]at h2;cases h2
  |some c=>exact⟨fn,c,fy,hb⟩
 .cases h2
def aIj{N:Type}{p:N->Bool}(n:Nat): ∀(m:Nat) (l:List N),l.length<=m*n->(∀k,k<m->((l.drop (k*n)).take n).all p=ae)->l.all p=ae
 |0,l,h,_=>by
  have:l=[]:=List.length_eq_zero_iff.1 (by omega)
  subst this;rfl
 |m+1,l,h,hk=>by
  have h0:=hk 0 (Nat.succ_pos m);rw[Nat.zero_mul,List.drop_zero]at h0;have h1:(l.drop n).all p=ae:=aIj n m (l.drop n) (by rw[List.length_drop];rw[Nat.succ_mul]at h;omega) λk hk2=>by
   have:=hk (k+1) (by omega)
   rw[List.drop_drop,show n+k*n=(k+1)*n by rw[Nat.succ_mul,Nat.add_comm]]
   exact this
  rw[<-List.take_append_drop n l,List.all_append,h0,h1];rfl
noncomputable def fsL:List Func:=(Go.Rf.cdG.funcs.toList).drop 0
noncomputable def ck(k:Nat):Bool:=((fsL.drop (k*4)).take 4).all (jW Tryz.prog)
def k0:ck 0=ae:=by kernel_rfl
def k1:ck 1=ae:=by kernel_rfl
def k2:ck 2=ae:=by kernel_rfl
def k3:ck 3=ae:=by kernel_rfl
def k4:ck 4=ae:=by kernel_rfl
def k5:ck 5=ae:=by kernel_rfl
def k6:ck 6=ae:=by kernel_rfl
def k7:ck 7=ae:=by kernel_rfl
def k8:ck 8=ae:=by kernel_rfl
def k9:ck 9=ae:=by kernel_rfl
def bIs:ck 10=ae:=by kernel_rfl
def bIr:ck 11=ae:=by kernel_rfl
def bIq:ck 12=ae:=by kernel_rfl
def bQC:ck 13=ae:=by kernel_rfl
def k14:ck 14=ae:=by kernel_rfl
def k15:ck 15=ae:=by kernel_rfl
def bEe:ck 16=ae:=by kernel_rfl
def bLq:ck 17=ae:=by kernel_rfl
def k18:ck 18=ae:=by kernel_rfl
def k19:ck 19=ae:=by kernel_rfl
def k20:ck 20=ae:=by kernel_rfl
def k21:ck 21=ae:=by kernel_rfl
def k22:ck 22=ae:=by kernel_rfl
def k23:ck 23=ae:=by kernel_rfl
def k24:ck 24=ae:=by kernel_rfl
def k25:ck 25=ae:=by kernel_rfl
def k26:ck 26=ae:=by kernel_rfl
def k27:ck 27=ae:=by kernel_rfl
def k28:ck 28=ae:=by kernel_rfl
def k29:ck 29=ae:=by kernel_rfl
def k30:ck 30=ae:=by kernel_rfl
def k31:ck 31=ae:=by kernel_rfl
def k32:ck 32=ae:=by kernel_rfl
def k33:ck 33=ae:=by kernel_rfl
def k34:ck 34=ae:=by kernel_rfl
def k35:ck 35=ae:=by kernel_rfl
def k36:ck 36=ae:=by kernel_rfl
def k37:ck 37=ae:=by kernel_rfl
def k38:ck 38=ae:=by kernel_rfl
def k39:ck 39=ae:=by kernel_rfl
def k40:ck 40=ae:=by kernel_rfl
def k41:ck 41=ae:=by kernel_rfl
def k42:ck 42=ae:=by kernel_rfl
def k43:ck 43=ae:=by kernel_rfl
def k44:ck 44=ae:=by kernel_rfl
def k45:ck 45=ae:=by kernel_rfl
def k46:ck 46=ae:=by kernel_rfl
def k47:ck 47=ae:=by kernel_rfl
def k48:ck 48=ae:=by kernel_rfl
def k49:ck 49=ae:=by kernel_rfl
def k50:ck 50=ae:=by kernel_rfl
def k51:ck 51=ae:=by kernel_rfl
def k52:ck 52=ae:=by kernel_rfl
def k53:ck 53=ae:=by kernel_rfl
def k54:ck 54=ae:=by kernel_rfl
def k55:ck 55=ae:=by kernel_rfl
def k56:ck 56=ae:=by kernel_rfl
def k57:ck 57=ae:=by kernel_rfl
def k58:ck 58=ae:=by kernel_rfl
def k59:ck 59=ae:=by kernel_rfl
def k60:ck 60=ae:=by kernel_rfl
def k61:ck 61=ae:=by kernel_rfl
def k62:ck 62=ae:=by kernel_rfl
def k63:ck 63=ae:=by kernel_rfl
def k64:ck 64=ae:=by kernel_rfl
def k65:ck 65=ae:=by kernel_rfl
def k66:ck 66=ae:=by kernel_rfl
def k67:ck 67=ae:=by kernel_rfl
def k68:ck 68=ae:=by kernel_rfl
def k69:ck 69=ae:=by kernel_rfl
def k70:ck 70=ae:=by kernel_rfl
def k71:ck 71=ae:=by kernel_rfl
def k72:ck 72=ae:=by kernel_rfl
def k73:ck 73=ae:=by kernel_rfl
def k74:ck 74=ae:=by kernel_rfl
def k75:ck 75=ae:=by kernel_rfl
def a3N:((Go.Rf.cdG.funcs.toList).take 0).all (jW Tryz.prog)=ae:=by kernel_rfl
def TL:(Go.Rf.cdG.funcs.toList).all (jW Tryz.prog)=ae:=by
 have h:fsL.all (jW Tryz.prog)=ae:=aIj 4 76 _ (bK (by kernel_rfl)) λk hk=>by
  match k,hk with
  |0,_=>exact k0
  |1,_=>exact k1
  |2,_=>exact k2
  |3,_=>exact k3
  |4,_=>exact k4
  |5,_=>exact k5
  |6,_=>exact k6
  |7,_=>exact k7
  |8,_=>exact k8
  |9,_=>exact k9
  |10,_=>exact bIs
  |11,_=>exact bIr
  |12,_=>exact bIq
  |13,_=>exact bQC
  |14,_=>exact k14
  |15,_=>exact k15
  |16,_=>exact bEe
  |17,_=>exact bLq
  |18,_=>exact k18
  |19,_=>exact k19
  |20,_=>exact k20
  |21,_=>exact k21
  |22,_=>exact k22
  |23,_=>exact k23
  |24,_=>exact k24
  |25,_=>exact k25
  |26,_=>exact k26
  |27,_=>exact k27
  |28,_=>exact k28
  |29,_=>exact k29
  |30,_=>exact k30
  |31,_=>exact k31
  |32,_=>exact k32
  |33,_=>exact k33
  |34,_=>exact k34
  |35,_=>exact k35
  |36,_=>exact k36
  |37,_=>exact k37
  |38,_=>exact k38
  |39,_=>exact k39
  |40,_=>exact k40
  |41,_=>exact k41
  |42,_=>exact k42
  |43,_=>exact k43
  |44,_=>exact k44
  |45,_=>exact k45
  |46,_=>exact k46
  |47,_=>exact k47
  |48,_=>exact k48
  |49,_=>exact k49
  |50,_=>exact k50
  |51,_=>exact k51
  |52,_=>exact k52
  |53,_=>exact k53
  |54,_=>exact k54
  |55,_=>exact k55
  |56,_=>exact k56
  |57,_=>exact k57
  |58,_=>exact k58
  |59,_=>exact k59
  |60,_=>exact k60
  |61,_=>exact k61
  |62,_=>exact k62
  |63,_=>exact k63
  |64,_=>exact k64
  |65,_=>exact k65
  |66,_=>exact k66
  |67,_=>exact k67
  |68,_=>exact k68
  |69,_=>exact k69
  |70,_=>exact k70
  |71,_=>exact k71
  |72,_=>exact k72
  |73,_=>exact k73
  |74,_=>exact k74
  |75,_=>exact k75
  |n+76,h=>omega
 have e:=List.take_append_drop 0 Go.Rf.cdG.funcs.toList;unfold fsL at h;rw[<-e,List.all_append,a3N,Bool.true_and];exact h
def aQU:(insL.all λx=>Ca Tryz.prog x.2.sig.f x.2.sig.ps.length)=ae:=by kernel_rfl
def a7k: ∀i s,tpI.sig i=some s->Ca Tryz.prog s.f s.ps.length=ae:=by
 intro i s h;have h':JV insL i=some s:=h;unfold JV at h';rw[aF]at h';obtain⟨x,hx,rfl⟩:=h';exact bJ.1 aQU _ (xI hx)
def K1:Tryz.prog.toTables.follows .mixedOrders=ae:=by kernel_rfl
end Go.TV
