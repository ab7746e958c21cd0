/- From the abstract machine to the model, for laws whose arguments are slices. -/
import Derived.Test.YtlealdhgajomhaaBddX
import Derived.WideKeyArgs
import Derived.Test.YtlealdhgajomhaaAiOk
namespace Go.Proofs.Ytlealdhgajomhaa
open Go.AI
set_option autoImplicit false
set_option linter.unusedSimpArgs false

theorem kept_same {W W' : World} (h : Kept W W') {p : MemPlace} (hp : p.block < W.heap.size) : W.sameAt W' p := by
  cases p with
  | cell b o => exact World.cell?_of_block (w := W) (h.old b hp)
  | map b => exact h.old b hp
theorem trodAll_kept {H : Type} {enc : TypeId × Value → H} {P : Program} {W W' : World} (hl : laidOutB P = true) (hK : Kept W W') {sp : Nat → Bool} : ∀ {ts : List TypeId} {vs : List Value} {ds : List (DataW H)} {ps : List MemPlace}, (∀ t ∈ ts, P.readableRec t = true ∧ t < P.types.size) →
    DataW.TrodAll enc P W 0 (fun _ => true) true ts vs ds ps → (∀ p ∈ ps, p.block < W.heap.size) → (∀ p ∈ ps, sp p.block = true) → DataW.TrodAll enc P W' 0 sp true ts vs ds ps
  | [], [], [], _, _, h, _, _ => h
  | t :: _, _ :: _, _ :: _, _, hT, ⟨p, q, h1, h2, e⟩, hb, hs => ⟨p, q, WideElems.Trod_stays hl (hT t (List.mem_cons.2 (Or.inl rfl))).1 (hT t (List.mem_cons.2 (Or.inl rfl))).2 h1 (fun x hx => kept_same hK (hb x (by rw [e]; exact List.mem_append_left _ hx))) (fun x hx => hs x (by rw [e]; exact List.mem_append_left _ hx)),
      trodAll_kept hl hK (fun t ht => hT t (List.mem_cons.2 (Or.inr ht))) h2 (fun x hx => hb x (by rw [e]; exact List.mem_append_right _ hx)) (fun x hx => hs x (by rw [e]; exact List.mem_append_right _ hx)), e⟩
theorem laidTry : laidOutB Try.prog = true := by kernel_rfl
theorem u8s_plain (cs : List Nat) : ∀ x ∈ u8s cs, plain0 x = true := by
  intro x hx; obtain ⟨k, _, rfl⟩ := List.mem_map.1 hx; rfl
theorem flat_plain (l : List Vtx) : ∀ x ∈ flat l, plain0 x = true := by
  induction l with
  | nil => intro x hx; simp [flat] at hx
  | cons v l ih =>
    intro x hx
    simp only [flat, cell3, List.cons_append, List.nil_append, List.mem_cons] at hx
    rcases hx with rfl | rfl | rfl | hx
    · rfl
    · rfl
    · rfl
    · exact ih x hx

theorem valid_walk {b0 : Nat} {H : Type} {enc : TypeId × Value → H} {W : World} {v0 v2 : Value} {d0 d2 : DataW H} {ps0 ps2 : List MemPlace} (hv0 : Value.okWide Try.prog W .any b0 23 v0) (h0 : DataW.Trod enc Try.prog W 0 (fun _ => true) true 23 v0 d0 ps0)
    (hv2 : Value.okWide Try.prog W .any b0 32 v2) (h2 : DataW.Trod enc Try.prog W 0 (fun _ => true) true 32 v2 d2 ps2) (root a f x : Int) (wa : (Lit.int .u8 a).wf = true) (wf : (Lit.int .u8 f).wf = true) (wx : (Lit.int .i8 x).wf = true) :
    Calls Try.prog 4 #[v0, .int .i64 root, v2, .int .u8 a, .int .u8 f, .int .i8 x] W fun e w' => e = .returned (.bool true) ∧ Kept W w' := by
  obtain ⟨l, hl⟩ := open_vtxs hv0 h0
  obtain ⟨cs, hc, hcs⟩ := open_u8s hv2 h2
  obtain ⟨p0, u0, k0, g0, r0⟩ := arg_vr (z := 3) (id := 0) (μ := fun _ => none) (flat_plain l) hl
  obtain ⟨p1, u1, k1, g1, r1⟩ := arg_vr (z := 1) (id := 1) (μ := fun _ => none) (u8s_plain cs) hcs
  have ba := bounds_u8 wa
  have bf := bounds_u8 wf
  have bx := bounds_i8 wx
  obtain ⟨a, rfl⟩ : ∃ n : Nat, a = n := ⟨_, (Int.toNat_of_nonneg ba.1).symm⟩
  obtain ⟨f, rfl⟩ : ∃ n : Nat, f = n := ⟨_, (Int.toNat_of_nonneg bf.1).symm⟩
  have hgo := valid_go l cs hc u0 u1 g0 g1 root a f (by omega) (by omega) x bx.1 (by omega)
  have hargs : VRL (muA p0 p1) [u0, .int .i64 root, u1, .int .u8 a, .int .u8 f, .int .i8 x] [v0, .int .i64 root, v2, .int .u8 a, .int .u8 f, .int .i8 x] :=
    .cons (r0 _ rfl) (.cons (.same _ rfl) (.cons (r1 _ rfl) (.cons (.same _ rfl) (.cons (.same _ rfl) (.cons (.same _ rfl) .nil)))))
  refine (wpc_calls okTry hgo (sim_args k0 k1) (args' := #[v0, .int .i64 root, v2, .int .u8 a, .int .u8 f, .int .i8 x]) hargs).mono ?_
  rintro e w' ⟨μ', r, σ', r', rfl, he, hr, hZ⟩
  rw [he, hr.eq0 rfl]
  exact ⟨rfl, hZ.kept⟩
end Go.Proofs.Ytlealdhgajomhaa
