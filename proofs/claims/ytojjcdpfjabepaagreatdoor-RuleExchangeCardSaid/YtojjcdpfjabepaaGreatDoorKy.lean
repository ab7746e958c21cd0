import Derived.Test.YtojjcdpfjabepaaGreatDoorKu
import Derived.Test.YtojjcdpfjabepaaGreatDoorKx
set_option linter.unusedVariables false
set_option linter.unusedSimpArgs false
set_option linter.constructorNameAsVariable false
namespace Go.TV
open Go.AI Go.PI Go.Proofs
set_option maxRecDepth 20000
theorem bl_irr: ∀a:List UInt8,Op.bytesLess a a=false
 |[]=>rfl
 |a::x=>by
  have h: ¬a<a:=UInt8.lt_irrefl _;simp[Op.bytesLess,bl_irr x,h]
def cB(a b:List UInt8):Int:=bif decide (a=b)then 0 else bif Op.bytesLess a b then-1 else 1
theorem cB_0{a b:List UInt8}:cB a b=0↔a=b:=by
 unfold cB;by_cases h:a=b
 ·rw[decide_eq_true h,cdt];exact⟨fun _=>h,fun _=>rfl⟩
 ·rw[decide_eq_false h,cdf];cases Op.bytesLess a b
  ·exact⟨fun e=>(by cases e),fun e=>absurd e h⟩
  ·exact⟨fun e=>(by cases e),fun e=>absurd e h⟩
theorem scP{a b:List UInt8}{L n:Nat}:CTp L (n+1) 124 [⟨.str,a⟩,⟨.str,b⟩]=some [⟨.int .i64,cB a b⟩]:=by
 rw[c124,F124,aJW];unfold cB;cases decide (a=b)with
 |true=>rfl
 |false=>cases Op.bytesLess a b<;>rfl
theorem scR{a b:List UInt8}{L n:Nat}:CTp L (n+1) 100 [⟨.str,a⟩,⟨.str,b⟩]=some [⟨.int .i64,cB a b⟩]:=by
 rw[c100,F100,aJ2];unfold cB;by_cases h:a=b
 ·subst h;rw[bl_irr,decide_eq_true rfl];rfl
 ·rw[decide_eq_false h];cases Op.bytesLess a b<;>rfl
def cY(a b:G.Y):Int:=bif decide (a.name=b.name)then cB a.package b.package else cB a.name b.name
theorem syP{a b:G.Y}{L n:Nat}:CTp L (n+2) 98 [⟨.rc 1,a⟩,⟨.rc 1,b⟩]=some [⟨.int .i64,cY a b⟩]:=by
 rw[show n+2=n+1+1 from rfl,c98,F98,B98x0,scP,bP,scP]
 unfold cY;by_cases h:a.name=b.name
 ·rw[decide_eq_true h,decide_eq_true (cB_0.2 h),cdt];rfl
 ·rw[decide_eq_false h,decide_eq_false (fun e=>h (cB_0.1 e)),cdf];rfl
theorem syR{a b:G.Y}{L n:Nat}:CTp L (n+2) 76 [⟨.rc 1,a⟩,⟨.rc 1,b⟩]=some [⟨.int .i64,cY a b⟩]:=by
 rw[show n+2=n+1+1 from rfl,c76,F76,B76x0,scR,scR]
 unfold cY;cases decide (a.name=b.name)<;>rfl
def isC(o:G.O):Bool:=decide (o.kind=4)&&decide ((o.pair.length:Int)=2)
theorem coP{o:G.O}{L n:Nat}:CTp L (n+1) 121 [⟨.rc 2,o⟩]=some [⟨.bool,isC o⟩]:=by
 rw[c121,F121,aJY];unfold isC;cases decide (o.kind=4)<;>rfl
theorem coR{o:G.O}{L n:Nat}:CTp L (n+1) 104 [⟨.rc 2,o⟩]=some [⟨.bool,isC o⟩]:=by
 rw[c104,F104,aJ0];unfold isC;cases decide (o.kind=4)<;>rfl
def rkn(k:Int):Int:=bif decide (k=1)then 0 else bif decide (k=3)then 1 else bif decide (k=2)then 2 else 3
theorem rkP{k:Int}{L n:Nat}:CTp L (n+1) 122 [⟨.int .i64,k⟩]=some [⟨.int .i64,rkn k⟩]:=by
 rw[c122,F122,aJX];unfold rkn;cases decide (k=1)with
 |true=>rfl
 |false=>cases decide (k=3)with
  |true=>rfl
  |false=>cases decide (k=2)<;>rfl
theorem rkR{o:G.O}{L n:Nat}:CTp L (n+1) 101 [⟨.rc 2,o⟩]=some [⟨.int .i64,rkn o.kind+1⟩]:=by
 rw[c101,F101,aJ1];unfold rkn;cases decide (o.kind=1)with
 |true=>rfl
 |false=>cases decide (o.kind=3)with
  |true=>rfl
  |false=>cases decide (o.kind=2)<;>rfl
def nuO(p:List UInt8×List UInt8):G.O:=⟨1,p.1,p.2,⟨[],[]⟩,[],[]⟩
def vaR(c:TC0)(p q:List UInt8×List UInt8):Rt:=
 obL [.str] (c 102 [⟨.str,p.1⟩,⟨.str,q.2⟩]) fun(r5:(List UInt8)×Unit)=>
 obL [.str] (c 102 [⟨.str,q.1⟩,⟨.str,p.2⟩]) fun(r6:(List UInt8)×Unit)=>
 obL [(.int .i64)] (c 103 [⟨.str,r5.1⟩,⟨.str,r6.1⟩]) fun(r7:Int×Unit)=>
 some [⟨(.int .i64),r7.1⟩]
def ordL:List (List UInt8×List UInt8):=[([45,51],[49]),([45,50],[49]),([45,53],[51]),([45,49],[49]),([48],[49]),([49],[50]),([49],[49]),([50],[49]),([51],[49])]
def plN(p:List UInt8×List UInt8):Nat:=ordL.findIdx fun x=>decide (x.1=p.1)&&decide (x.2=p.2)
def vN(p q:List UInt8×List UInt8):Int:=bif Nat.blt (plN p) (plN q)then-1 else bif Nat.blt (plN q) (plN p)then 1 else 0
def eqB(x:Rt)(r:Int):Bool:=match x with|some [⟨.int .i64,(a:Int)⟩]=>decide (a=r)|_=>false
theorem eqB_ok{x:Rt}{r:Int}(h:eqB x r=true):x=some [⟨.int .i64,r⟩]:=by
 unfold eqB at h;split at h
 ·rename_i a;rw[of_decide_eq_true h]
 ·cases h
theorem vP_all(L M:Nat):(numL.all fun p=>numL.all fun q=>eqB (cF L M 60 123 [⟨.rc 2,nuO p⟩,⟨.rc 2,nuO q⟩]) (vN p q))=true:=by kernel_rfl
theorem vR_all(L M:Nat):(numL.all fun p=>numL.all fun q=>eqB (vaR (cF L M 60) p q) (vN p q))=true:=by kernel_rfl
theorem tI{n d:List UInt8}(h:okN n d=true):(n,d)∈numL:=by
 unfold okN at h;rw[List.any_eq_true]at h;obtain⟨p,hp,h2⟩:=h;simp only[bjE,djE]at h2;obtain⟨rfl,rfl⟩:=h2;exact hp
theorem vaP{n d n' d':List UInt8}(h:okN n d=true)(h':okN n' d'=true){L M:Nat}:CTp (L+7000) (M+60) 123 [⟨.rc 2,nuO (n,d)⟩,⟨.rc 2,nuO (n',d')⟩]=some [⟨.int .i64,vN (n,d) (n',d')⟩]:=by
 have h1:=eqB_ok (List.all_eq_true.1 (List.all_eq_true.1 (vP_all L M) _ (tI h)) _ (tI h'))
 rwa [aIk]at h1
theorem vaR_ok{n d n' d':List UInt8}(h:okN n d=true)(h':okN n' d'=true){L M:Nat}:vaR (CTp (L+7000) (M+60)) (n,d) (n',d')=some [⟨.int .i64,vN (n,d) (n',d')⟩]:=by
 have h1:=eqB_ok (List.all_eq_true.1 (List.all_eq_true.1 (vR_all L M) _ (tI h)) _ (tI h'))
 rwa [aIk]at h1
end Go.TV
