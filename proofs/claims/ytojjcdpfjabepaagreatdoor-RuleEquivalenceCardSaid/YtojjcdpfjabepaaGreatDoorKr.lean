import Derived.Test.YtojjcdpfjabepaaGreatDoorKq
import Derived.Test.YtojjcdpfjabepaaGreatDoorKo
import Derived.KernelRfl
set_option linter.unusedVariables false
set_option linter.unusedSimpArgs false
set_option linter.constructorNameAsVariable false
namespace Go.TV
open Go.AI Go.PI Go.Proofs
set_option maxRecDepth 20000
noncomputable def cQ(L M k:Nat):TC0:=evB (fun _ _=>none) (upT (L+7000) M) (L+7000) k
theorem cQ_ok(L M k:Nat):cQ L M k=CTp (L+7000) (M+k):=aAv (fun n i d r h=>by cases h) k
def rzO:G.O:=⟨0,[],[],⟨[],[]⟩,[],[]⟩
def liB:List UInt8:=[108,105,115,112]
def vaT(c:UInt8):G.T:=⟨1,⟨liB,[c]⟩,rzO,[]⟩
def liT(f:List UInt8)(l:List G.T):G.T:=⟨3,⟨liB,f⟩,rzO,l⟩
def noT:G.T:=⟨2,⟨[],[]⟩,⟨2,[],[],⟨liB,[110,105,108]⟩,[],[]⟩,[]⟩
def reT(s:G.Y)(a b:UInt8):G.T:=⟨3,s,rzO,[vaT a,vaT b]⟩
def ifB:List UInt8:=[105,102]
def imB:List UInt8:=[105,109,112,108,105,101,115]
def aDo(s:G.Y):G.T:=liT ifB [liT [98,111,111,108,101,97,110,112] [reT s 120 121],
 liT ifB [reT s 120 120,liT ifB [liT imB [reT s 120 121,reT s 121 120],liT imB [liT ifB [reT s 120 121,reT s 121 122,noT],reT s 120 122],noT],noT],noT]
theorem eqP(L M:Nat)(s:G.Y):cQ L M 20 4 [⟨.rc 1,s⟩]=some [⟨.rc 3,aDo s⟩]:=by kernel_rfl
theorem eqR(L M:Nat)(s:G.Y):cQ L M 20 5 [⟨.rc 1,s⟩]=some [⟨.rc 3,aDo s⟩]:=by kernel_rfl
def nmR(r:Rt):Bool:=match r with|some [⟨.sl (.rc 1),l⟩]=> !List.isEmpty l&&Nat.ble l.length 1000|_=>false
theorem nmR_ok{r:Rt}(h:nmR r=true): ∃l:List G.Y,r=some [⟨.sl (.rc 1),l⟩]∧0<l.length∧l.length≤1000:=by
 unfold nmR at h;split at h
 ·rename_i l;simp only[bjE,Bool.not_eq_true']at h;refine⟨l,rfl,?_,Nat.le_of_ble_eq_true h.2⟩;cases l with
  |nil=>cases h.1
  |cons a l=>exact Nat.zero_lt_succ _
 ·cases h
theorem nmP(L M:Nat):nmR (cQ L M 20 3 [])=true:=by kernel_rfl
theorem usP(L M:Nat)(x:List UInt8): ∃s:G.Y,cQ L M 20 2 [⟨.str,x⟩]=some [⟨.rc 1,s⟩]:=⟨⟨[117,115,101,114],x⟩,by kernel_rfl⟩
theorem eqv_sz(s:G.Y):tsz (aDo s)≤1000:=Nat.le_of_ble_eq_true (by kernel_rfl)
theorem eqQ(L n:Nat)(hL:1000≤L)(hn:1000≤n)(s:G.Y):CTp L n 6 [⟨.rc 3,aDo s⟩,⟨.rc 3,aDo s⟩]=some [⟨.bool,true⟩]:=by
 have h1:=eqv_sz s;have h:=EqT_ok (aDo s) (by simp only[wfT];omega) (aDo s) L n (by omega) (by omega)
 rw[decide_eq_true rfl]at h;exact h
theorem row21_of{c:TC0}{L:Nat}{nm:List UInt8}{f:Nat}(hf:f<256)(haw:c 1 []=some [⟨.bool,true⟩])(hus: ∃s:G.Y,c 2 [⟨.str,nm⟩]=some [⟨.rc 1,s⟩])
    (hnm: ∃l:List G.Y,c 3 []=some [⟨.sl (.rc 1),l⟩]∧0<l.length∧l.length≤1000) (hp: ∀s:G.Y,c 4 [⟨.rc 1,s⟩]=some [⟨.rc 3,aDo s⟩])
    (hr: ∀s:G.Y,c 5 [⟨.rc 1,s⟩]=some [⟨.rc 3,aDo s⟩]) (hq: ∀s:G.Y,c 6 [⟨.rc 3,aDo s⟩,⟨.rc 3,aDo s⟩]=some [⟨.bool,true⟩]):
    F0 c L nm (f:Int)=some [⟨.bool,true⟩]:=by
 obtain⟨s,hs⟩:=hus;obtain⟨l,h1,h2,h3⟩:=hnm;have o1: ∀{β:Type} {b:G.Y} {K:G.Y×Unit→Option β},obL (D:=U0.D) [.rc 1] (some [⟨.rc 1,b⟩]) K=K (b,()):=rfl;have o2: ∀{β:Type} {b:List G.Y} {K:List G.Y×Unit→Option β},obL (D:=U0.D) [.sl (.rc 1)] (some [⟨.sl (.rc 1),b⟩]) K=K (b,()):=rfl;have o3: ∀{β:Type} {b:G.T} {K:G.T×Unit→Option β},obL (D:=U0.D) [.rc 3] (some [⟨.rc 3,b⟩]) K=K (b,()):=rfl;have o4: ∀{β:Type} {b:Bool} {K:Bool×Unit→Option β},obL (D:=U0.D) [.bool] (some [⟨.bool,b⟩]) K=K (b,()):=rfl;rw[F0,B0x0,haw,o4];simp only[bnT];rw[bX];by_cases hl:(20:Int)<(nm.length:Int)
 ·rw[decide_eq_true hl,eT]
 ·rw[decide_eq_false hl,bX,hs,o1,h1,o2];have hw:IntKind.i64.wrap (f:Int)=(f:Int):=by rw[IntKind.wrap_i64];omega
  have hz:decide ((l.length:Int)=0)=false:=decide_eq_false (by omega)
  have hm:Int.tmod (f:Int) (l.length:Int)=((f%l.length:Nat):Int):=rfl;have hi:f%l.length<l.length:=Nat.mod_lt _ h2;rw[hz,hw,hm];show ob (idx l ((f%l.length:Nat):Int)) _=_;rw[cX,geG hi,oN,hp,o3,hr,o3,hq,o4,eT,hp,o3,hr,o3,hq,o4];rfl
end Go.TV
