import Derived.Test.YtojjcdpfjabepaaGreatDoorKn
import Derived.Lib.Walk
import Derived.WalkKit
import Derived.LoopN
import Derived.KernelRfl
set_option linter.unusedVariables false
set_option linter.unusedSimpArgs false
set_option linter.constructorNameAsVariable false
namespace Go.Rf
open Go.AI Go.Proofs Go.RowKit
def sg(a b:Int):Int:=if a<b then-1 else if b<a then 1 else 0
set_option maxRecDepth 100000 in
theorem yG(a:Int)(w:World):Calls Tryz.prog 189 #[.int .i64 a] w fun e w'=>e= .returned (.bool false)∧w'=w:=by
 go_enter Tryz.func189,Tryz.ntmps189
 go_wp2
 go_ret
 exact⟨by simp,rfl⟩
set_option maxRecDepth 100000 in
theorem rN(a b:Int)(w:World):Calls Tryz.prog 156 #[.int .i64 a,.int .i64 b] w fun e w'=>e= .returned (.int .i64 (sg a b))∧w'=w:=by
 unfold sg
 go_enter Tryz.func156,Tryz.ntmps156
 go_wp2_with (go_at_call 189;refine(yG _ _).mono ?_)
 rintro e w1 ⟨rfl,rfl⟩
 go_wp2_with (go_at_call 189;refine(yG _ _).mono ?_)
 rintro e w1 ⟨rfl,rfl⟩
 go_wp2
 all_goals (go_ret;exact⟨rfl,rfl⟩)
def sg3(x0 x1 x2 y0 y1 y2:Int):Int:=if sg x0 y0≠0 then sg x0 y0 else if sg x1 y1≠0 then sg x1 y1 else sg x2 y2
set_option maxHeartbeats 2000000 in
set_option maxRecDepth 100000 in
theorem aFq(b o c q:Nat)(x0 x1 x2 y0 y1 y2:Int)(w:World)(hx0:w.cell? ⟨b,o,none⟩=some (.int .i64 x0))(hx1:w.cell? ⟨b,o+1,none⟩=some (.int .i64 x1))(hx2:w.cell? ⟨b,o+2,none⟩=some (.int .i64 x2))
    (hy0:w.cell? ⟨c,q,none⟩=some (.int .i64 y0)) (hy1:w.cell? ⟨c,q+1,none⟩=some (.int .i64 y1)) (hy2:w.cell? ⟨c,q+2,none⟩=some (.int .i64 y2)):
    Calls Tryz.prog 115 #[.slice (some ⟨b,o,none⟩) 3 3,.slice (some ⟨c,q,none⟩) 3 3] w fun e w'=>e= .returned (.int .i64 (sg3 x0 x1 x2 y0 y1 y2))∧w'=w:=by
 go_enter Tryz.func115,Tryz.ntmps115
 go_wp2
 refine wp_loop_rounds 4 ?_;rw[rounds_succ]
 go_wp2_with (go_at_call 156;refine(rN _ _ _).mono ?_)
 rintro e w1 ⟨rfl,rfl⟩;generalize hs0:sg x0 y0=s0
 go_wp2
 ·go_ret
  exact⟨by simp_all [sg3],rfl⟩
 rw[rounds_succ]
 go_wp2_with (go_at_call 156;refine(rN _ _ _).mono ?_)
 rintro e w2 ⟨rfl,rfl⟩;generalize hs1:sg x1 y1=s1
 go_wp2
 ·go_ret
  exact⟨by simp_all [sg3],rfl⟩
 rw[rounds_succ]
 go_wp2_with (go_at_call 156;refine(rN _ _ _).mono ?_)
 rintro e w3 ⟨rfl,rfl⟩;generalize hs2:sg x2 y2=s2
 go_wp2
 ·go_ret
  exact⟨by simp_all [sg3],rfl⟩
 rw[rounds_succ]
 go_wp2
 go_ret
 exact⟨by simp_all [sg3],rfl⟩
end Go.Rf
