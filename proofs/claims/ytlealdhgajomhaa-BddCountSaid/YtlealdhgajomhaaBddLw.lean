/- What the laws share. -/
import Derived.Test.YtlealdhgajomhaaBddAe
import Derived.Test.YtlealdhgajomhaaBddU
namespace Go.Proofs.Ytlealdhgajomhaa
open Go.AI
set_option linter.unusedVariables false
set_option linter.unusedSimpArgs false

theorem bd38 (a : Option Addr) (n c : Nat) : abuild Try.prog 38 #[(0, .slice a n c)] = some (.agg #[.slice a n c, .int .i64 0]) := by kernel_rfl
theorem Src.new {τ : St} {b cc : Nat} {co : Option Addr} {cs : List Nat} (h1 : 0 < cs.length → co = some ⟨1, 0, none⟩) (r1 : τ.row 1 = some (u8s cs, rdMeta 1)) (hb : 1 < b) (hbn : b < τ.next) (hrow : τ.row b = some ([.slice co cs.length cc, .int .i64 0], boxMeta)) : Src b τ cs := by
  refine ⟨co, cc, 0, hrow, hbn, by omega, fun h0 => ⟨1, 0, u8s cs, rdMeta 1, h1 h0, hb, r1, ?_⟩⟩
  rw [List.drop_zero, List.take_of_length_le (by simp [u8s])]
theorem bs68_3 (id : Nat) (a a' a'' : Option Addr) (n c n' c' n'' c'' : Nat) (r r' r'' : Int) : vBuildS Try.prog 68 3 #[(0, .agg #[.slice a n c, .int .i64 r]), (1, .agg #[.slice a' n' c', .int .i64 r']), (2, .agg #[.slice a'' n'' c'', .int .i64 r''])] id =
    some (.slice (some ⟨id, 0, none⟩) 3 3, .cells [.slice a n c, .int .i64 r, .slice a' n' c', .int .i64 r', .slice a'' n'' c'', .int .i64 r''] (rowMeta 2)) := by kernel_rfl
theorem DL3 {σ : St} {id : Nat} {s1 i1 s2 i2 s3 i3 : Value} {m : Mta} {φ ψ χ : As → Bool} (hid : id < σ.next) (h : σ.row id = some ([s1, i1, s2, i2, s3, i3], m)) (h1 : IsD 0 σ.next σ (.agg #[s1, i1]) φ) (h2 : IsD 0 σ.next σ (.agg #[s2, i2]) ψ) (h3 : IsD 0 σ.next σ (.agg #[s3, i3]) χ) : DL σ (.slice (some ⟨id, 0, none⟩) 3 3) [φ, ψ, χ] := by
  refine ⟨_, 3, rfl, fun _ => ⟨id, 0, _, m, rfl, hid, h, fun i hi => ?_⟩⟩
  obtain rfl | rfl | rfl : i = 0 ∨ i = 1 ∨ i = 2 := by simp at hi; omega
  · exact ⟨s1, i1, rfl, h1⟩
  · exact ⟨s2, i2, rfl, h2⟩
  · exact ⟨s3, i3, rfl, h3⟩
theorem wpc_dgen {P : Program} {f : FuncId} {args : Array Value} {ops : Array Oper} {ms : List Nat} {base : Nat} {l : List (Nat × Oper)} {ps : List (Nat × (St → Prop))} {S : Slots} {σ : St} {Q : Slots → St → Prop} {d : Option Tmp} (J : Slots → Prop) (h : J S) (k : ∀ S, J S → wpc P f args σ (dcont P ops ms base l ps S d Q)) : wpc P f args σ (dcont P ops ms base l ps S d Q) := k S h
/-- a box that holds a diagram -/
structure BX (p : Nat) (v w : Value) (φ : As → Bool) (τ : St) : Prop where
  row : τ.row p = some ([v, w], boxMeta)
  lt : p < τ.next
  is : IsD 0 τ.next τ (.agg #[v, w]) φ
theorem BX.mono {p : Nat} {v w : Value} {φ : As → Bool} {σ τ : St} (h : BX p v w φ σ) (e : EX σ τ) : BX p v w φ τ := ⟨(e.row p h.lt).trans h.row, Nat.lt_of_lt_of_le h.lt e.next, h.is.mono e⟩
theorem Same_is {σ : St} {a b : Value} {φ ψ : As → Bool} (ha : IsD 0 σ.next σ a φ) (hb : IsD 0 σ.next σ b ψ) (h : ∀ f, φ f = ψ f) : wpc Try.prog 12 #[a, b] σ fun r σ' => r = .bool true ∧ EX σ σ' := by
  obtain ⟨T, hT, oT, eT⟩ := ha
  obtain ⟨U, hU, oU, eU⟩ := hb
  have : T = U := Dt.uniq oT oU (fun f => by rw [eT, eU, h])
  subst this
  have := cd_len oT (by omega)
  refine wpc_mono (Same_spec (hT.dv (Nat.le_refl _)) (hU.dv (Nat.le_refl _)) (by omega)) ?_
  rintro r σ' ⟨rfl, hE⟩
  exact ⟨by simp, hE⟩
theorem IsD.ex {lo : Nat} {σ τ : St} {v : Value} {φ : As → Bool} (h : IsD lo σ.next σ v φ) (e : EX σ τ) : IsD lo τ.next τ v φ := (h.un ⟨fun id _ hi => e.row id hi⟩).hi e.next
theorem IsD.putlo {lo hi k : Nat} {σ : St} {v : Value} {φ : As → Bool} {ob : AObj} (h : IsD lo hi σ v φ) (hk : k < lo) : IsD lo hi (σ.put k ob) v φ := h.un ((UN.refl _ _ _).put (Or.inl hk) _)
theorem row_of_g {σ : St} {id z : Nat} {cs : List Value} (h : σ.get id = some (.cells cs (rowMeta z))) : σ.row id = some (cs, rowMeta z) := by
  unfold St.row; rw [h]; rfl
end Go.Proofs.Ytlealdhgajomhaa
