import Derived.Test.YtbggbjpobkkbaaaGreatDoorKx
set_option linter.unusedVariables false
set_option linter.unusedSimpArgs false
set_option linter.constructorNameAsVariable false
namespace Go.TV
open Go.AI Go.PI Go.Proofs
set_option maxRecDepth 20000
def chI(r:Rt):Bool:=match r with|some [⟨.int .i64,_⟩]=>true|_=>false
theorem cV{r:Rt}(h:chI r=true):InR r:=by
 unfold chI at h;split at h
 ·exact⟨_,rfl⟩
 ·cases h
def prA(w:List UInt8)(n:Nat):TVs:=[⟨.rc 1,(⟨fS,w⟩:G.Y)⟩,⟨.sl (.int .i64),vN (2047:Int) n⟩]
section
variable(L M:Nat)
theorem pw1:InR (cF L M 60 62 (prA [101,113,117,97,108] 2)):=cV (by kernel_rfl)
theorem pw2:InR (cF L M 60 62 (prA [99,111,110,115] 2)):=cV (by kernel_rfl)
theorem pw3:InR (cF L M 60 62 (prA [99,97,114] 1)):=cV (by kernel_rfl)
theorem pw4:InR (cF L M 60 62 (prA [99,100,114] 1)):=cV (by kernel_rfl)
theorem pw5:InR (cF L M 60 62 (prA [99,111,110,115,112] 1)):=cV (by kernel_rfl)
theorem pw6:InR (cF L M 60 62 (prA [115,121,109,98,111,108,112] 1)):=cV (by kernel_rfl)
theorem pw7:InR (cF L M 60 62 (prA [115,116,114,105,110,103,112] 1)):=cV (by kernel_rfl)
theorem pw8:InR (cF L M 60 62 (prA [114,97,116,105,111,110,97,108,112] 1)):=cV (by kernel_rfl)
theorem pw9:InR (cF L M 60 62 (prA [105,110,116,101,103,101,114,112] 1)):=cV (by kernel_rfl)
theorem pw10:InR (cF L M 60 62 (prA [98,105,110,97,114,121,45,43] 2)):=cV (by kernel_rfl)
theorem pw11:InR (cF L M 60 62 (prA [98,105,110,97,114,121,45,42] 2)):=cV (by kernel_rfl)
theorem pw12:InR (cF L M 60 62 (prA [117,110,97,114,121,45,45] 1)):=cV (by kernel_rfl)
theorem pw13:InR (cF L M 60 62 (prA [117,110,97,114,121,45,47] 1)):=cV (by kernel_rfl)
theorem pw14:InR (cF L M 60 62 (prA [60] 2)):=cV (by kernel_rfl)
theorem pw15:InR (cF L M 60 62 (prA [110,117,109,101,114,97,116,111,114] 1)):=cV (by kernel_rfl)
theorem pw16:InR (cF L M 60 62 (prA [100,101,110,111,109,105,110,97,116,111,114] 1)):=cV (by kernel_rfl)
theorem pw17:InR (cF L M 60 62 (prA [102,108,111,111,114] 1)):=cV (by kernel_rfl)
theorem pw18:InR (cF L M 60 62 (prA [115,121,109,98,111,108,45,110,97,109,101] 1)):=cV (by kernel_rfl)
theorem pw19:InR (cF L M 60 62 (prA [115,121,109,98,111,108,45,112,97,99,107,97,103,101,45,110,97,109,101] 1)):=cV (by kernel_rfl)
theorem pw20:InR (cF L M 60 62 (prA [105,110,116,101,114,110] 2)):=cV (by kernel_rfl)
theorem pw21:InR (cF L M 60 62 (prA [115,116,114,105,110,103,45,97,112,112,101,110,100] 2)):=cV (by kernel_rfl)
theorem pw22:InR (cF L M 60 62 (prA [115,116,114,105,110,103,45,108,101,110,103,116,104] 1)):=cV (by kernel_rfl)
theorem pw23:InR (cF L M 60 62 (prA [115,116,114,105,110,103,45,98,121,116,101] 2)):=cV (by kernel_rfl)
theorem pw24:InR (cF L M 60 62 (prA [98,121,116,101,45,115,116,114,105,110,103] 1)):=cV (by kernel_rfl)
end
end Go.TV
