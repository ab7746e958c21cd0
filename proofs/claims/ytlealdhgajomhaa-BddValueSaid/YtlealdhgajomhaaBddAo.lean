/- From the abstract machine to the model: the law BddValue. -/
import Derived.Test.YtlealdhgajomhaaBddY
import Derived.Test.YtlealdhgajomhaaBddAn
namespace Go.Proofs.Ytlealdhgajomhaa
set_option linter.unusedVariables false
open Go.AI
set_option linter.unusedSimpArgs false

theorem value_walk {b0 : Nat} {H : Type} {enc : TypeId × Value → H} {W : World} {v0 : Value} {d0 : DataW H} {ps0 : List MemPlace} (hv0 : Value.okWide Try.prog W .any b0 32 v0) (h0 : DataW.Trod enc Try.prog W 0 (fun _ => true) true 32 v0 d0 ps0)
    (a : Int) (wa : (Lit.int .u16 a).wf = true) :
    Calls Try.prog 5 #[v0, .int .u16 a] W fun e w' => e = .returned (.bool true) ∧ Kept W w' := by
  obtain ⟨cs, hc, hcs⟩ := open_u8s hv0 h0
  obtain ⟨p1, u1, k1, g1, r1⟩ := arg_vr (z := 1) (id := 1) (μ := fun _ => none) (u8s_plain cs) hcs
  have ba := bounds_u16 wa
  obtain ⟨a, rfl⟩ : ∃ n : Nat, a = n := ⟨_, (Int.toNat_of_nonneg ba.1).symm⟩
  have hgo := value_go cs hc u1 g1 a (by omega)
  have hargs : VRL (muA none p1) [u1, .int .u16 a] [v0, .int .u16 a] := .cons (r1 _ rfl) (.cons (.same _ rfl) .nil)
  refine (wpc_calls okTry hgo (sim_args (p0 := none) (fun p h => by cases h) k1) (args' := #[v0, .int .u16 a]) hargs).mono ?_
  rintro e w' ⟨μ', r, σ', r', rfl, he, hr, hZ⟩
  rw [he, hr.eq0 rfl]
  exact ⟨rfl, hZ.kept⟩
end Go.Proofs.Ytlealdhgajomhaa
