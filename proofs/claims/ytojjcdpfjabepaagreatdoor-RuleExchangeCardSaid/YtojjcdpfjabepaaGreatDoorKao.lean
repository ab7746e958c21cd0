import Derived.Test.YtojjcdpfjabepaaGreatDoorKs
set_option linter.unusedVariables false
set_option linter.unusedSimpArgs false
set_option linter.constructorNameAsVariable false
namespace Go.Rf
open Go.AI Go.Proofs
def fmK(a:Int):Option (List UInt8):=bif decide (a= -10)then some [45,49,48]else bif decide (-9≤a)&&decide (a≤ -1)then some [45,48+UInt8.ofNat (-a).toNat]else none
def orcF:Orc:=⟨257,fun a b=>bif decide (b=10)then fmK a else none,257,none⟩
def isV:Value→Option (Value×St)→Bool
 | .string a,some (.string b,_)=>decide (a.data.toList=b.data.toList)
 | .int .i64 a,some (.int .i64 b,_)=>decide (a=b)
 |_,_=>false
theorem isV_ok: ∀{v:Value} {x:Option (Value×St)},isV v x=true→∃σ,x=some (v,σ):=fun{v x} h=>by
 unfold isV at h;split at h
 ·rename_i a b σ;refine⟨σ,?_⟩;simp only[djE]at h;cases a with|mk a=>
  cases b with|mk b=>
  have:a=b:=by rw[←Array.toArray_toList (xs:=a),h,Array.toArray_toList]
  rw[this]
 ·rename_i a b σ;refine⟨σ,?_⟩;simp only[djE]at h;rw[h]
 ·cases h
noncomputable def runN(f:FuncId)(a b:List UInt8):Option (Value×St):=rR Tryz.prog cdN orcF 300 100 f #[sV a,sV b] (stK Tryz.prog)
theorem run_mul:(muT.all fun x=>x.2.all fun y=>isV y.2 (runN 237 x.1 y.1))=true:=by kernel_rfl
theorem run_cmp:(coT.all fun x=>x.2.all fun y=>isV y.2 (runN 236 x.1 y.1))=true:=by kernel_rfl
end Go.Rf
