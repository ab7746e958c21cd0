import Derived.Test.YtmebgielemmehaaGreatDoorKh
set_option linter.unusedVariables false
set_option linter.unusedSimpArgs false
set_option linter.constructorNameAsVariable false
set_option linter.defProp false
namespace Go.AI
variable{P:Program}
def aQe(C:Program)(f:FuncId)(fn:Func):Program:={C with funcs:=⟨C.funcs.toList.set f fn⟩}
end Go.AI
namespace Go.AI
variable{P:Program}
def aOB(P:Program):St:=⟨.nil,.nil,P.globals.size⟩
def aLu(P:Program):Mp:=λid=>if id<P.globals.size then some ⟨id,0,0,0⟩else none
def VQ{id:Nat}{p:Place}(h:aLu P id=some p):id<P.globals.size/\p.b=id:=by
 unfold aLu at h;split at h
 .cases h;exact⟨‹_›,rfl⟩
 .cases h
def zE(id:Nat):(aOB P).get id=none:=rfl
def aQm{w:World}(hg:P.globals.size<=w.heap.size):Sim (W0.of w) P (aLu P) (aOB P) w where
 kept:=KeptO.refl λid p h=>by obtain⟨h1,h2⟩:=VQ h;omega
 dom id h:=by
  unfold aLu;rw[bH (show¬id<P.globals.size from by have:P.globals.size<=id:=h;omega)]
 glob g h:=⟨⟨g,0,0,0⟩,by unfold aLu;rw[bI h],rfl,rfl⟩
 row id p cs m _ h:=by rw[zE]at h;cases h
 map id p es _ h:=by rw[zE]at h;cases h
 off i j p q cs ds m n _ _ _ h:=by rw[zE]at h;cases h
 tip i j p q cs ds m n _ _ _ h:=by rw[zE]at h;cases h
 maps i j p q es fs _ _ _ h:=by rw[zE]at h;cases h
 vers id cs m g v h:=by rw[zE]at h;cases h
 lim i j p q cs ds m n _ _ _ h:=by rw[zE]at h;cases h
end Go.AI
