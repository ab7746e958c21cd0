/- From the abstract machine to the model: the law BddValid. -/
import Derived.Test.YtlealdhgajomhaaBddY
import Derived.Test.YtlealdhgajomhaaBddW
namespace Go.Proofs.Ytlealdhgajomhaa
set_option linter.unusedVariables false
open Go.AI
set_option linter.unusedSimpArgs false

theorem valid_walk {b0 : Nat} {H : Type} {enc : TypeId × Value → H} {W : World} {v0 v2 : Value} {d0 d2 : DataW H} {ps0 ps2 : List MemPlace} (hv0 : Value.okWide Try.prog W .any b0 23 v0) (h0 : DataW.Trod enc Try.prog W 0 (fun _ => true) true 23 v0 d0 ps0)
    (hv2 : Value.okWide Try.prog W .any b0 32 v2) (h2 : DataW.Trod enc Try.prog W 0 (fun _ => true) true 32 v2 d2 ps2) (root a f x : Int) (wa : (Lit.int .u8 a).wf = true) (wf : (Lit.int .u8 f).wf = true) (wx : (Lit.int .i8 x).wf = true) :
    Calls Try.prog 4 #[v0, .int .i64 root, v2, .int .u8 a, .int .u8 f, .int .i8 x] W fun e w' => e = .returned (.bool true) ∧ Kept W w' := by
  obtain ⟨l, hl⟩ := open_vtxs hv0 h0
  obtain ⟨cs, hc, hcs⟩ := open_u8s hv2 h2
  obtain ⟨p0, u0, k0, g0, r0⟩ := arg_vr (z := 3) (id := 0) (μ := fun _ => none) (flat_plain l) hl
  obtain ⟨p1, u1, k1, g1, r1⟩ := arg_vr (z := 1) (id := 1) (μ := fun _ => none) (u8s_plain cs) hcs
  have ba := bounds_u8 wa
  have bf := bounds_u8 wf
  have bx := bounds_i8 wx
  obtain ⟨a, rfl⟩ : ∃ n : Nat, a = n := ⟨_, (Int.toNat_of_nonneg ba.1).symm⟩
  obtain ⟨f, rfl⟩ : ∃ n : Nat, f = n := ⟨_, (Int.toNat_of_nonneg bf.1).symm⟩
  have hgo := valid_go l cs hc u0 u1 g0 g1 root a f (by omega) (by omega) x bx.1 (by omega)
  have hargs : VRL (muA p0 p1) [u0, .int .i64 root, u1, .int .u8 a, .int .u8 f, .int .i8 x] [v0, .int .i64 root, v2, .int .u8 a, .int .u8 f, .int .i8 x] :=
    .cons (r0 _ rfl) (.cons (.same _ rfl) (.cons (r1 _ rfl) (.cons (.same _ rfl) (.cons (.same _ rfl) (.cons (.same _ rfl) .nil)))))
  refine (wpc_calls okTry hgo (sim_args k0 k1) (args' := #[v0, .int .i64 root, v2, .int .u8 a, .int .u8 f, .int .i8 x]) hargs).mono ?_
  rintro e w' ⟨μ', r, σ', r', rfl, he, hr, hZ⟩
  rw [he, hr.eq0 rfl]
  exact ⟨rfl, hZ.kept⟩
end Go.Proofs.Ytlealdhgajomhaa
