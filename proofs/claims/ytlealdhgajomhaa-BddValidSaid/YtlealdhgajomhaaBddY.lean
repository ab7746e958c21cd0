/- From the abstract machine to the model, for laws whose arguments are slices. -/
import Derived.Test.YtlealdhgajomhaaBddX
import Derived.WideKeyArgs
import Derived.Test.YtlealdhgajomhaaAiOk
namespace Go.Proofs.Ytlealdhgajomhaa
set_option linter.unusedVariables false
open Go.AI
set_option linter.unusedSimpArgs false

theorem kept_same {W W' : World} (h : Kept W W') {p : MemPlace} (hp : p.block < W.heap.size) : W.sameAt W' p := by
  cases p with
  | cell b o => exact World.cell?_of_block (w := W) (h.old b hp)
  | map b => exact h.old b hp
theorem trodAll_kept {H : Type} {enc : TypeId × Value → H} {P : Program} {W W' : World} (hl : laidOutB P = true) (hK : Kept W W') {sp : Nat → Bool} : ∀ {ts : List TypeId} {vs : List Value} {ds : List (DataW H)} {ps : List MemPlace}, (∀ t ∈ ts, P.readableRec t = true ∧ t < P.types.size) →
    DataW.TrodAll enc P W 0 (fun _ => true) true ts vs ds ps → (∀ p ∈ ps, p.block < W.heap.size) → (∀ p ∈ ps, sp p.block = true) → DataW.TrodAll enc P W' 0 sp true ts vs ds ps
  | [], [], [], _, _, h, _, _ => h
  | t :: _, _ :: _, _ :: _, _, hT, ⟨p, q, h1, h2, e⟩, hb, hs => ⟨p, q, WideElems.Trod_stays hl (hT t (List.mem_cons.2 (Or.inl rfl))).1 (hT t (List.mem_cons.2 (Or.inl rfl))).2 h1 (fun x hx => kept_same hK (hb x (by rw [e]; exact List.mem_append_left _ hx))) (fun x hx => hs x (by rw [e]; exact List.mem_append_left _ hx)),
      trodAll_kept hl hK (fun t ht => hT t (List.mem_cons.2 (Or.inr ht))) h2 (fun x hx => hb x (by rw [e]; exact List.mem_append_right _ hx)) (fun x hx => hs x (by rw [e]; exact List.mem_append_right _ hx)), e⟩
theorem laidTry : laidOutB Try.prog = true := by kernel_rfl
theorem u8s_plain (cs : List Nat) : ∀ x ∈ u8s cs, plain0 x = true := by
  intro x hx; obtain ⟨k, _, rfl⟩ := List.mem_map.1 hx; rfl
theorem flat_plain (l : List Vtx) : ∀ x ∈ flat l, plain0 x = true := by
  induction l with
  | nil => intro x hx; simp [flat] at hx
  | cons v l ih =>
    intro x hx
    simp only [flat, cell3, List.cons_append, List.nil_append, List.mem_cons] at hx
    rcases hx with rfl | rfl | rfl | hx
    · rfl
    · rfl
    · rfl
    · exact ih x hx
end Go.Proofs.Ytlealdhgajomhaa
