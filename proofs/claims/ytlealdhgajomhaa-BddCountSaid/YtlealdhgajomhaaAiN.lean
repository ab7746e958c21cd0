/- The rules of lists and options in one. -/
import Derived.Test.YtlealdhgajomhaaAiM
namespace Go.AI
set_option linter.unusedVariables false
set_option linter.unusedSimpArgs false
theorem RUNB : type_of% (
  And.intro (And.intro (And.intro (And.intro (And.intro (@Option.getD_some.{0}) (@Option.map_some.{0,0})) (And.intro (@Option.bind_some.{0,0}) (And.intro (@ne_eq.{1}) (@Option.some.injEq.{0}))))
  (And.intro (And.intro (@Prod.mk.injEq.{0,0}) (@exists_and_left.{1})) (And.intro (@exists_eq_left'.{1}) (And.intro (@exists_eq_left.{1}) (@List.size_toArray.{0}))))) (And.intro (And.intro (And.intro
  (@List.length_cons.{0}) (@List.length_nil.{0})) (And.intro (@if_true.{1}) (And.intro (@if_false.{1}) (@exists_eq'.{1})))) (And.intro (And.intro (@exists_const.{1}) (@List.getElem?_cons_zero.{0}))
  (And.intro (@List.getElem?_cons_succ.{0}) (And.intro (@List.map_toArray.{0,0}) (@List.map_cons.{0,0})))))) (And.intro (And.intro (And.intro (And.intro (@List.map_nil.{0,0}) (@beq_iff_eq.{0}))
  (And.intro (@List.all_cons.{0}) (And.intro (@List.all_nil.{0}) (@cond_true.{1})))) (And.intro (And.intro (@List.set_cons_zero.{0}) (@List.set_cons_succ.{0})) (And.intro (@List.drop_zero.{0})
  (And.intro (@List.drop_succ_cons.{0}) (@List.take_succ_cons.{0}))))) (And.intro (And.intro (And.intro (@List.take_zero.{0}) (@List.getElem?_toArray.{0})) (And.intro (@Option.map_none.{0,0}) (And.intro
  (@Option.getD_none.{0}) (@k_tmp)))) (And.intro (And.intro (@k_val) (And.intro (@List.append_toArray.{0}) (@List.nil_append.{0}))) (And.intro (@List.cons_append.{0}) (And.intro (@mm_none)
  (@row_putm))))))) :=
  And.intro (And.intro (And.intro (And.intro (And.intro (@Option.getD_some.{0}) (@Option.map_some.{0,0})) (And.intro (@Option.bind_some.{0,0}) (And.intro (@ne_eq.{1}) (@Option.some.injEq.{0}))))
  (And.intro (And.intro (@Prod.mk.injEq.{0,0}) (@exists_and_left.{1})) (And.intro (@exists_eq_left'.{1}) (And.intro (@exists_eq_left.{1}) (@List.size_toArray.{0}))))) (And.intro (And.intro (And.intro
  (@List.length_cons.{0}) (@List.length_nil.{0})) (And.intro (@if_true.{1}) (And.intro (@if_false.{1}) (@exists_eq'.{1})))) (And.intro (And.intro (@exists_const.{1}) (@List.getElem?_cons_zero.{0}))
  (And.intro (@List.getElem?_cons_succ.{0}) (And.intro (@List.map_toArray.{0,0}) (@List.map_cons.{0,0})))))) (And.intro (And.intro (And.intro (And.intro (@List.map_nil.{0,0}) (@beq_iff_eq.{0}))
  (And.intro (@List.all_cons.{0}) (And.intro (@List.all_nil.{0}) (@cond_true.{1})))) (And.intro (And.intro (@List.set_cons_zero.{0}) (@List.set_cons_succ.{0})) (And.intro (@List.drop_zero.{0})
  (And.intro (@List.drop_succ_cons.{0}) (@List.take_succ_cons.{0}))))) (And.intro (And.intro (And.intro (@List.take_zero.{0}) (@List.getElem?_toArray.{0})) (And.intro (@Option.map_none.{0,0}) (And.intro
  (@Option.getD_none.{0}) (@k_tmp)))) (And.intro (And.intro (@k_val) (And.intro (@List.append_toArray.{0}) (@List.nil_append.{0}))) (And.intro (@List.cons_append.{0}) (And.intro (@mm_none)
  (@row_putm))))))
theorem YRUNB : type_of% (
  And.intro (And.intro (And.intro (@List.filterMap_cons.{0,0}) (@List.filterMap_nil.{0,0})) (And.intro (@List.filter_cons.{0}) (And.intro (@List.filter_nil.{0}) (@List.forall_mem_cons.{0})))) (And.intro
  (And.intro (@List.not_mem_nil.{0}) (And.intro (@implies_true.{1}) (@implies_true.{0}))) (And.intro (@List.getD_cons_zero.{0}) (And.intro (@List.getD_cons_succ.{0}) (@eq_self.{1}))))) :=
  And.intro (And.intro (And.intro (@List.filterMap_cons.{0,0}) (@List.filterMap_nil.{0,0})) (And.intro (@List.filter_cons.{0}) (And.intro (@List.filter_nil.{0}) (@List.forall_mem_cons.{0})))) (And.intro
  (And.intro (@List.not_mem_nil.{0}) (And.intro (@implies_true.{1}) (@implies_true.{0}))) (And.intro (@List.getD_cons_zero.{0}) (And.intro (@List.getD_cons_succ.{0}) (@eq_self.{1}))))
end Go.AI
