/- Comparing structs. -/
import Derived.Test.YtlealdhgajomhaaAiW
import Derived.Laws.StructEq
namespace Go.AI
set_option linter.unusedVariables false
set_option linter.unusedSimpArgs false
section
variable {P : Program}
theorem still_ite {α : Type} {c : Prop} [Decidable c] {a b : Sem α} : still P (if c then a else b) = if c then still P a else still P b := by split <;> rfl
theorem still_eq_struct {d : Nat} {t : TypeId} {fs : Array Field} {xs ys : Array Value} (ht : P.underlying t = some (.struct fs)) (hp : P.stoodInHeld t = false) :
    still P (Op.equalIn (d + 1) t (.agg xs) (.agg ys)) = still P (Op.eqFields d xs ys fs.toList) := by
  rw [Op.equalIn.eq_2, still_bind, still_underlying, ht]
  simp only [Option.bind_some]
  rw [still_bind]
  have : still P program = some P := rfl
  rw [this]
  simp only [Option.bind_some, hp, Bool.false_eq_true, if_false]
  rw [← Array.forIn_toList]
  generalize fs.toList = l
  clear ht
  induction l with
  | nil => simp [Op.eqFields, still_bind, still_pure]
  | cons f l ih =>
    simp only [List.forIn_cons, Op.eqFields, still_bind, still_ite]
    split
    · cases still P (part f.type xs f.offset) with
      | none => rfl
      | some a =>
        cases still P (part f.type ys f.offset) with
        | none => rfl
        | some b =>
          simp only [Option.bind_some]
          cases still P (Op.equalIn d f.type a b) with
          | none => rfl
          | some r =>
            cases r with
            | false => simp [still_pure]
            | true =>
              simp only [Option.bind_some, Bool.not_true, Bool.false_eq_true, if_false, still_pure]
              simpa only [still_bind] using ih
    · simp only [still_pure, Option.bind_some]
      simpa only [still_bind] using ih
theorem still_eq_int {d : Nat} {t : TypeId} {k k' : IntKind} {a b : Int} (h : P.underlying t = some (.int k')) : still P (Op.equalIn (d + 1) t (.int k a) (.int k b)) = some (a == b) := by
  rw [Op.equalIn.eq_2, still_bind, still_underlying, h]; simp [still_pure]
theorem still_eq_bool {d : Nat} {t : TypeId} {a b : Bool} (h : P.underlying t = some .bool) : still P (Op.equalIn (d + 1) t (.bool a) (.bool b)) = some (a == b) := by
  rw [Op.equalIn.eq_2, still_bind, still_underlying, h]; simp [still_pure]
theorem abin_eql {t : TypeId} {x y : Operand} {xs ys : Array Value} {r : Bool} (h1 : xs.toList.all plain0 = true) (h2 : ys.toList.all plain0 = true) (hg : still P (eqGuard .eql t x y (.agg xs) (.agg ys)) = some ()) (he : still P (Op.equal t (.agg xs) (.agg ys)) = some r) :
    abin P .eql t x y (.agg xs) (.agg ys) = some (.bool r) := by
  simp only [abin, plain1, h1, h2, Bool.and_self, cond_true, stillP, still_bind, hg, Option.bind_some, binOp, he, still_pure, plain0]
theorem abin_neq {t : TypeId} {x y : Operand} {xs ys : Array Value} {r : Bool} (h1 : xs.toList.all plain0 = true) (h2 : ys.toList.all plain0 = true) (hg : still P (eqGuard .neq t x y (.agg xs) (.agg ys)) = some ()) (he : still P (Op.equal t (.agg xs) (.agg ys)) = some r) :
    abin P .neq t x y (.agg xs) (.agg ys) = some (.bool (!r)) := by
  simp only [abin, plain1, h1, h2, Bool.and_self, cond_true, stillP, still_bind, hg, Option.bind_some, binOp, he, still_pure, plain0]
theorem at_set (S : Slots) (d k : Nat) (v : Value) : Slots.at (Tr.set S d v) k = if k = d then v else S.at k := by
  unfold Slots.at
  rw [Tr.get_set]; split <;> rfl
end
end Go.AI
