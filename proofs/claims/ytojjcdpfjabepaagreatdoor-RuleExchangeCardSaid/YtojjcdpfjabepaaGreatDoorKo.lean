import Derived.Test.YtojjcdpfjabepaaGreatDoorKn
set_option linter.unusedVariables false
set_option linter.unusedSimpArgs false
set_option linter.constructorNameAsVariable false
namespace Go.Rf
open Go.AI Go.Proofs
def iaO(d k:Nat)(c:Int):Oper:=mkO (some d) (.indexAddr 148 (.tmp k) (.const (.int .i64 c))) 3
def ldO(d k:Nat):Oper:=mkO (some d) (.load 3 (.tmp k)) 3
def ltO(d k j:Nat):Oper:=mkO (some d) (.binOp .lss 3 (.tmp k) (.tmp j) 3) 4
def ezO(d k:Nat):Oper:=mkO (some d) (.binOp .eql 3 (.tmp k) (.const (.int .i64 0)) 3) 4
def cmO:Array Oper:= #[iaO 23 5 0,ldO 24 23,iaO 25 6 0,ldO 26 25,iaO 27 5 1,ldO 28 27,iaO 29 6 1,ldO 30 29,iaO 31 5 2,ldO 32 31,iaO 33 6 2,ldO 34 33,ezO 41 24,ezO 42 28,ezO 43 32,ltO 35 24 26,ltO 36 26 24,ltO 37 28 30,ltO 38 30 28,ltO 39 32 34,ltO 40 34 32]
def asO(v:Int):Oper:=mkO (some 7) (.assign (.const (.int .i64 v))) 3
def asC(v:Int):Code:= .region 0 #[asO v] false
def cmM:Code:= .seq (.region 2 cmO false) (.cond (.tmp 35) (asC (-1)) (.cond (.tmp 36) (asC 1) (.cond (.tmp 37) (asC (-1)) (.cond (.tmp 38) (asC 1) (.cond (.tmp 39) (asC (-1)) (.cond (.tmp 40) (asC 1) (asC 0)))))))
def aGf:Code→Code
 | .seq a (.seq b (.seq (.seq _ d) e))=> .seq a (.seq b (.seq (.seq cmM d) e))
 |c=>c
noncomputable def cmB:Code:=Tryz.f66.body.getD .skip
noncomputable def cmF:Func:={Tryz.f66 with body:=some (aGf cmB),ntmps:=44}
noncomputable def liF:Func:={Tryz.f75 with body:=none}
noncomputable def cdM:Program:=kK (kK (kK Tryz.prog 66 cmF) 75 liF) 193 scF
end Go.Rf
