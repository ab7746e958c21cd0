import Derived.Test.YtjapdpcodgaoaaaGreatDoorKq
set_option linter.all false
namespace Go.TV
open Go.AI Go.PI Go.Proofs
set_option maxRecDepth 20000
def bGS(w:au UInt8)(n:Nat):nO:=[⟨.rc 1,(⟨cV,w⟩:G.Y)⟩,⟨.sl (.int .i64),rV (2047:Int) n⟩]
def AM(c:cG)(w:au UInt8)(n:Nat):Prop:=c 72 (bGS w n)=some [⟨.int .i64,Q5 w⟩]
def Eb{c:cG}{w:au UInt8}{n:Nat}{k:Int}(h:c 72 (bGS w n)=some [⟨.int .i64,k⟩])(e:Q5 w=k):AM c w n:=by rw[AM,e];exact h
section
variable(L M:Nat)
def bIZ:AM (cF L M 60) [101,113,117,97,108] 2:=Eb (k:=96) (by kernel_rfl) (by kernel_rfl)
def bIY:AM (cF L M 60) [99,111,110,115] 2:=Eb (k:=1536) (by kernel_rfl) (by kernel_rfl)
def bIX:AM (cF L M 60) [99,97,114] 1:=Eb (k:=2047) (by kernel_rfl) (by kernel_rfl)
def bIW:AM (cF L M 60) [99,100,114] 1:=Eb (k:=2047) (by kernel_rfl) (by kernel_rfl)
def bIV:AM (cF L M 60) [99,111,110,115,112] 1:=Eb (k:=96) (by kernel_rfl) (by kernel_rfl)
def bIU:AM (cF L M 60) [115,121,109,98,111,108,112] 1:=Eb (k:=96) (by kernel_rfl) (by kernel_rfl)
def bIT:AM (cF L M 60) [115,116,114,105,110,103,112] 1:=Eb (k:=96) (by kernel_rfl) (by kernel_rfl)
def bIS:AM (cF L M 60) [114,97,116,105,111,110,97,108,112] 1:=Eb (k:=96) (by kernel_rfl) (by kernel_rfl)
def bIR:AM (cF L M 60) [105,110,116,101,103,101,114,112] 1:=Eb (k:=96) (by kernel_rfl) (by kernel_rfl)
def bBe:AM (cF L M 60) [98,105,110,97,114,121,45,43] 2:=Eb (k:=31) (by kernel_rfl) (by kernel_rfl)
def bBd:AM (cF L M 60) [98,105,110,97,114,121,45,42] 2:=Eb (k:=31) (by kernel_rfl) (by kernel_rfl)
def bBc:AM (cF L M 60) [117,110,97,114,121,45,45] 1:=Eb (k:=31) (by kernel_rfl) (by kernel_rfl)
def bBb:AM (cF L M 60) [117,110,97,114,121,45,47] 1:=Eb (k:=31) (by kernel_rfl) (by kernel_rfl)
def bBa:AM (cF L M 60) [60] 2:=Eb (k:=96) (by kernel_rfl) (by kernel_rfl)
def bA9:AM (cF L M 60) [110,117,109,101,114,97,116,111,114] 1:=Eb (k:=7) (by kernel_rfl) (by kernel_rfl)
def bA8:AM (cF L M 60) [100,101,110,111,109,105,110,97,116,111,114] 1:=Eb (k:=2) (by kernel_rfl) (by kernel_rfl)
def bA7:AM (cF L M 60) [102,108,111,111,114] 1:=Eb (k:=7) (by kernel_rfl) (by kernel_rfl)
def bA6:AM (cF L M 60) [115,121,109,98,111,108,45,110,97,109,101] 1:=Eb (k:=256) (by kernel_rfl) (by kernel_rfl)
def bA5:AM (cF L M 60) [115,121,109,98,111,108,45,112,97,99,107,97,103,101,45,110,97,109,101] 1:=Eb (k:=256) (by kernel_rfl) (by kernel_rfl)
def bA4:AM (cF L M 60) [105,110,116,101,114,110] 2:=Eb (k:=224) (by kernel_rfl) (by kernel_rfl)
def bA3:AM (cF L M 60) [115,116,114,105,110,103,45,97,112,112,101,110,100] 2:=Eb (k:=256) (by kernel_rfl) (by kernel_rfl)
def bA2:AM (cF L M 60) [115,116,114,105,110,103,45,108,101,110,103,116,104] 1:=Eb (k:=3) (by kernel_rfl) (by kernel_rfl)
def bA1:AM (cF L M 60) [115,116,114,105,110,103,45,98,121,116,101] 2:=Eb (k:=35) (by kernel_rfl) (by kernel_rfl)
def bA0:AM (cF L M 60) [98,121,116,101,45,115,116,114,105,110,103] 1:=Eb (k:=256) (by kernel_rfl) (by kernel_rfl)
end
def aDG{s:G.Y}{k:Int}(h:arity s=some k):s.package=cV/\∃r∈rowsL,r.name=s.name/\r.arity=k:=by
 unfold arity at h;split at h
 .rename_i e;refine⟨e,?_⟩;generalize rowsL=l at h;induction l with
  |nil=>cases h
  |cons r l ih=>
   simp only[lP]at h;split at h
   .rename_i e2;cases h;exact⟨r,aH ..,e2,rfl⟩
   .obtain⟨r',h1,h2⟩:=ih h;exact⟨r',aG _ h1,h2⟩
 .cases h
def a1c(L M:Nat): ∀r∈rowsL,r.name≠Ap->(r.arity=1/\AM (cF L M 60) r.name 1)∨(r.arity=2/\AM (cF L M 60) r.name 2):=by
 rw[EZ];intro r hr bi;simp only[List.mem_cons,List.not_mem_nil,or_false]at hr;rcases hr with rfl|rfl|rfl|rfl|rfl|rfl|rfl|rfl|rfl|rfl|rfl|rfl|rfl|rfl|rfl|rfl|rfl|rfl|rfl|rfl|rfl|rfl|rfl|rfl|rfl
 .exact(bi rfl).elim
 .exact .inr ⟨rfl,bIZ L M⟩
 .exact .inr ⟨rfl,bIY L M⟩
 .exact .inl ⟨rfl,bIX L M⟩
 .exact .inl ⟨rfl,bIW L M⟩
 .exact .inl ⟨rfl,bIV L M⟩
 .exact .inl ⟨rfl,bIU L M⟩
 .exact .inl ⟨rfl,bIT L M⟩
 .exact .inl ⟨rfl,bIS L M⟩
 .exact .inl ⟨rfl,bIR L M⟩
 .exact .inr ⟨rfl,bBe L M⟩
 .exact .inr ⟨rfl,bBd L M⟩
 .exact .inl ⟨rfl,bBc L M⟩
 .exact .inl ⟨rfl,bBb L M⟩
 .exact .inr ⟨rfl,bBa L M⟩
 .exact .inl ⟨rfl,bA9 L M⟩
 .exact .inl ⟨rfl,bA8 L M⟩
 .exact .inl ⟨rfl,bA7 L M⟩
 .exact .inl ⟨rfl,bA6 L M⟩
 .exact .inl ⟨rfl,bA5 L M⟩
 .exact .inr ⟨rfl,bA4 L M⟩
 .exact .inr ⟨rfl,bA3 L M⟩
 .exact .inl ⟨rfl,bA2 L M⟩
 .exact .inr ⟨rfl,bA1 L M⟩
 .exact .inl ⟨rfl,bA0 L M⟩
end Go.TV
