/- Arguments that are slices: from the model's world to the abstract machine's start. -/
import Derived.Test.YtlealdhgajomhaaBddU
import Derived.Deep.Slices
import Derived.ChangeSlices
import Derived.OpenShut
namespace Go.Proofs.Ytlealdhgajomhaa
set_option linter.unusedVariables false
open Go.AI
set_option linter.unusedSimpArgs false

structure RowOK (W : World) (p : AI.Place) (cs : List Value) (z : Nat) : Prop where
  row : ∃ C t fr, W.heap[p.b]? = some (Obj.cells C t fr) ∧ ∀ (i : Nat) (v : Value), cs[i]? = some v → C[p.o + i]? = some v
  pl : ∀ v ∈ cs, plain0 v = true
  z : p.z = z
def muA (p0 p1 : Option AI.Place) : Mp := fun id => if id = 0 then p0 else if id = 1 then p1 else none
theorem stA_get (cs0 cs1 : List Value) (id : Nat) : (stA cs0 cs1).get id = if id = 0 then some (.cells cs0 (rdMeta 3)) else if id = 1 then some (.cells cs1 (rdMeta 1)) else none := by
  match id with
  | 0 => rfl
  | 1 => rfl
  | n + 2 =>
    rw [if_neg (by omega), if_neg (by omega)]
    simp only [St.get, stA, Tr.get_node]
    rw [if_neg (by omega)]
    split
    · rw [if_neg (by omega)]
      split <;> rfl
    · rfl
theorem sim_args {W : World} {p0 p1 : Option AI.Place} {cs0 cs1 : List Value} (h0 : ∀ p, p0 = some p → RowOK W p cs0 3) (h1 : ∀ p, p1 = some p → RowOK W p cs1 1) : Sim W Try.prog (muA p0 p1) (stA cs0 cs1) W := by
  have hg : Try.prog.globals.size = 0 := by kernel_rfl
  have key : ∀ id p cs m, muA p0 p1 id = some p → (stA cs0 cs1).get id = some (.cells cs m) → RowOK W p cs m.z ∧ m.wr = false ∧ m.tip = false ∧ m.grp = none := by
    intro id p cs m hm hget
    rw [stA_get] at hget
    unfold muA at hm
    split at hm
    · rename_i e; rw [if_pos e] at hget; cases hget; exact ⟨h0 p hm, rfl, rfl, rfl⟩
    · rename_i e
      rw [if_neg e] at hget
      split at hm
      · rename_i e'; rw [if_pos e'] at hget; cases hget; exact ⟨h1 p hm, rfl, rfl, rfl⟩
      · cases hm
  exact {
    kept := Kept.refl W
    dom := fun id hid => by
      have : 2 ≤ id := hid
      unfold muA; rw [if_neg (by omega), if_neg (by omega)]
    glob := fun g hg' => absurd hg' (by omega)
    row := fun id p cs m hm hget _ => by
      obtain ⟨⟨⟨C, t, fr, r1, r2⟩, r3, r4⟩, k1, k2, k3⟩ := key id p cs m hm hget
      exact ⟨⟨C, t, fr, r1, fun i v hv => ⟨v, r2 i v hv, .same v (r3 v (List.mem_of_getElem? hv))⟩, (fun h => by rw [k2] at h; cases h)⟩, (fun h => by rw [k1] at h; cases h), (fun h => by rw [k2] at h; cases h), r4⟩
    map := fun id p es hm hget => by
      rw [stA_get] at hget
      split at hget
      · cases hget
      · split at hget <;> cases hget
    off := fun i j p q cs ds m n _ hm _ hget _ _ _ hw => by
      obtain ⟨_, k1, _⟩ := key i p cs m hm hget; rw [k1] at hw; cases hw
    tip := fun i j p q cs ds m n _ hm _ hget _ _ _ hw => by
      obtain ⟨_, _, k2, _⟩ := key i p cs m hm hget; rw [k2] at hw; cases hw
    maps := fun i j p q es fs _ _ _ hget => by
      rw [stA_get] at hget
      split at hget
      · cases hget
      · split at hget <;> cases hget
    vers := fun id cs m g v hget hgr => by
      rw [stA_get] at hget
      split at hget
      · cases hget; cases hgr
      · split at hget
        · cases hget; cases hgr
        · cases hget }

/-- an argument of the model, as the abstract machine takes it -/
theorem arg_vr {W : World} {v : Value} {n z id : Nat} {cs : List Value} {μ : Mp} (hpl : ∀ x ∈ cs, plain0 x = true)
    (h : (v = .slice none 0 0 ∧ n = 0) ∨ ∃ a cap, v = .slice (some a) n cap ∧ n ≤ cap ∧ (0 < n → ∃ b off C t fr, a = ⟨b, off, none⟩ ∧ W.heap[b]? = some (Obj.cells C t fr) ∧ ∀ (i : Nat) (x : Value), cs[i]? = some x → C[off + i]? = some x)) :
    ∃ (p : Option AI.Place) (u : Value), (∀ q, p = some q → RowOK W q cs z) ∧ ArgS id n u ∧ (∀ μ : Mp, μ id = p → VR μ u v) := by
  rcases h with ⟨rfl, rfl⟩ | ⟨a, cap, rfl, hc, hrow⟩
  · exact ⟨none, .slice none 0 0, fun q hq => (by cases hq), ⟨none, 0, rfl, fun h => by omega, fun _ => rfl⟩, fun μ _ => .same _ rfl⟩
  · by_cases hn : 0 < n
    · obtain ⟨b, off, C, t, fr, rfl, h1, h2⟩ := hrow hn
      refine ⟨some ⟨b, off, off + cap * z, z⟩, .slice (some ⟨id, 0, none⟩) n (n + 1), ?_, ⟨_, _, rfl, fun _ => rfl, fun h => by omega⟩, fun μ hμ => ?_⟩
      · intro q hq; cases hq; exact ⟨⟨C, t, fr, h1, h2⟩, hpl, rfl⟩
      · exact .slc id 0 n (n + 1) cap ⟨b, off, off + cap * z, z⟩ hμ (fun e => by omega) hc (Nat.le_refl _)
    · obtain rfl : n = 0 := by omega
      exact ⟨none, .slice (some ⟨0, 0, some 0⟩) 0 0, fun q hq => (by cases hq), ⟨_, _, rfl, fun h => by omega, fun _ => rfl⟩, fun μ _ => .emp a cap⟩

/-! ### reading the arguments -/
theorem cell_heap {w : World} {a : Addr} {v : Value} (h : w.cell? a = some v) : ∃ C t fr, w.heap[a.block]? = some (Obj.cells C t fr) ∧ a.spot = none ∧ C[a.off]? = some v := by
  unfold World.cell? at h
  split at h
  · rename_i C t fr hh
    split at h
    · cases h
    · rename_i hs; exact ⟨C, t, fr, hh, by simpa using hs, h⟩
  · cases h
/-- cells one behind the other, at a plain address -/
theorem cells_row {w : World} {a : Addr} {N : Nat} {V : Nat → Value} (hN : 0 < N) (h : ∀ i, i < N → w.cell? (a.add i) = some (V i)) :
    ∃ b off C t fr, a = ⟨b, off, none⟩ ∧ w.heap[b]? = some (Obj.cells C t fr) ∧ ∀ i, i < N → C[off + i]? = some (V i) := by
  obtain ⟨b, off, spot⟩ := a
  have hspot : spot = none := by simpa [Addr.add] using World.cell?_spot (h 0 hN)
  subst hspot
  obtain ⟨C, t, fr, h1, _, h3⟩ := cell_heap (h 0 hN)
  have e0 : (Addr.add ⟨b, off, none⟩ 0) = ⟨b, off, none⟩ := by rw [Go.WideShapes.add_plain]; rfl
  rw [e0] at h1 h3
  refine ⟨b, off, C, t, fr, rfl, h1, fun i hi => ?_⟩
  obtain ⟨C', t', fr', g1, _, g3⟩ := cell_heap (h i hi)
  rw [Go.WideShapes.add_plain] at g1 g3
  simp only at g1 g3 h1
  rw [h1] at g1
  cases g1
  exact g3
section
variable {H : Type} {enc : TypeId × Value → H} {w : World}
/-- a slice of bytes -/
theorem open_u8s {b0 : Nat} {v : Value} {d : DataW H} {ps : List MemPlace} (hv : Value.okWide Try.prog w .any b0 32 v) (h : DataW.Trod enc Try.prog w 0 (fun _ => true) true 32 v d ps) :
    ∃ cs : List Nat, (∀ k ∈ cs, k < 256) ∧ ((v = .slice none 0 0 ∧ cs.length = 0) ∨ ∃ a cap, v = .slice (some a) cs.length cap ∧ cs.length ≤ cap ∧ (0 < cs.length → ∃ b off C t fr, a = ⟨b, off, none⟩ ∧ w.heap[b]? = some (Obj.cells C t fr) ∧ ∀ (i : Nat) (x : Value), (u8s cs)[i]? = some x → C[off + i]? = some x)) := by
  obtain ⟨fuel, hf⟩ := h
  obtain ⟨a0, len, cap, rfl⟩ := Go.WideShapes.okWide_slice Try.underlying32 hv
  rcases Go.ChangeShapes.open_ints Try.underlying32 Try.underlying5 (by kernel_rfl) hf with ⟨hcs, hx⟩ | ⟨a, len', cap', zs, hcs, _, hl, hm, hz, hx, hcell, hws⟩
  · have : Value.slice a0 len cap = .slice none 0 0 := by simpa [Value.cells] using hcs
    exact ⟨[], (by simp), Or.inl ⟨this, rfl⟩⟩
  · have hvv : Value.slice a0 len cap = .slice (some a) len' cap' := by simpa [Value.cells] using hcs
    rw [if_pos rfl] at hz
    have hb : ∀ n ∈ zs, 0 ≤ n ∧ n ≤ 255 := fun n hn => Go.bounds_u8 (hws n hn)
    refine ⟨(zs.take len').map Int.toNat, ?_, Or.inr ⟨a, cap', ?_, ?_, ?_⟩⟩
    · intro k hk
      obtain ⟨n, hn, rfl⟩ := List.mem_map.1 hk
      have := hb n (List.mem_of_mem_take hn); omega
    · rw [hvv]; simp; omega
    · simp; omega
    · intro h0
      simp only [List.length_map, List.length_take] at h0
      obtain ⟨b, off, C, t, fr, rfl, g1, g2⟩ := cells_row (V := fun i => .int .u8 (zs.getD i 0)) (N := zs.length) (by omega) hcell
      refine ⟨b, off, C, t, fr, rfl, g1, fun i x hx => ?_⟩
      simp only [u8s, List.map_map, List.getElem?_map, Option.map_eq_some_iff] at hx
      obtain ⟨y, hy, rfl⟩ := hx
      rw [List.getElem?_take] at hy
      split at hy
      · have hi := (List.getElem?_eq_some_iff.1 hy).1
        rw [g2 i hi]
        have hyb := hb y (List.mem_of_getElem? hy)
        simp only [List.getD_eq_getElem?_getD, hy, Option.getD_some, Function.comp]
        rw [Int.toNat_of_nonneg hyb.1]
      · cases hy
/-- a slice of vertices -/
theorem open_vtxs {b0 : Nat} {v : Value} {d : DataW H} {ps : List MemPlace} (hv : Value.okWide Try.prog w .any b0 23 v) (h : DataW.Trod enc Try.prog w 0 (fun _ => true) true 23 v d ps) :
    ∃ l : List Vtx, ((v = .slice none 0 0 ∧ l.length = 0) ∨ ∃ a cap, v = .slice (some a) l.length cap ∧ l.length ≤ cap ∧ (0 < l.length → ∃ b off C t fr, a = ⟨b, off, none⟩ ∧ w.heap[b]? = some (Obj.cells C t fr) ∧ ∀ (i : Nat) (x : Value), (flat l)[i]? = some x → C[off + i]? = some x)) := by
  obtain ⟨fuel, hf⟩ := h
  obtain ⟨a0, len, cap, rfl⟩ := Go.WideShapes.okWide_slice Try.underlying23 hv
  have hC : Try.prog.cellsOf 40 = 3 := by kernel_rfl
  have hI : Try.prog.cellsOf 3 = 1 := by kernel_rfl
  rcases Go.Deep.open_slice Try.underlying23 hf with ⟨hcs, hx⟩ | ⟨a, len', cap', m, n, D, Pl, hcs, _, hl, hm, hmm, hx, hi⟩
  · have : Value.slice a0 len cap = .slice none 0 0 := by simpa [Value.cells] using hcs
    exact ⟨[], Or.inl ⟨this, rfl⟩⟩
  · have hvv : Value.slice a0 len cap = .slice (some a) len' cap' := by simpa [Value.cells] using hcs
    rw [if_pos rfl] at hmm
    have each : ∀ i, i < m → ∃ x y z : Int, w.cell? (a.add (i * 3)) = some (.int .i64 x) ∧ w.cell? (a.add (i * 3 + 1)) = some (.int .i64 y) ∧ w.cell? (a.add (i * 3 + 2)) = some (.int .i64 z) := by
      intro i him
      obtain ⟨cs', hc, ht'⟩ := hi i him
      rw [hC] at hc
      obtain ⟨ys, n', hn', hy, hlen, hyl, hfd⟩ := DataW.trod_struct Try.underlying40 ht'
      obtain ⟨_, hcl, hat⟩ := World.cells?_some hc
      match cs', hcl with
      | [c0, c1, c2], _ =>
        have f0 : DataW.trod enc Try.prog w 0 (fun _ => true) true n' 3 (List.take (Try.prog.cellsOf 3) (List.drop 0 [c0, c1, c2])) = ys[0]? := hfd 0 _ rfl
        have f1 : DataW.trod enc Try.prog w 0 (fun _ => true) true n' 3 (List.take (Try.prog.cellsOf 3) (List.drop 1 [c0, c1, c2])) = ys[1]? := hfd 1 _ rfl
        have f2 : DataW.trod enc Try.prog w 0 (fun _ => true) true n' 3 (List.take (Try.prog.cellsOf 3) (List.drop 2 [c0, c1, c2])) = ys[2]? := hfd 2 _ rfl
        rw [hI] at f0 f1 f2
        simp only [List.drop_zero, List.take_succ_cons, List.take_zero, List.drop_succ_cons] at f0 f1 f2
        have y0 : ys[0]? = some (ys[0]'(by rw [hyl]; decide)) := List.getElem?_eq_getElem _
        have y1 : ys[1]? = some (ys[1]'(by rw [hyl]; decide)) := List.getElem?_eq_getElem _
        have y2 : ys[2]? = some (ys[2]'(by rw [hyl]; decide)) := List.getElem?_eq_getElem _
        obtain ⟨x, e0, _⟩ := DataW.trod_int Try.underlying3 (f0.trans y0)
        obtain ⟨y, e1, _⟩ := DataW.trod_int Try.underlying3 (f1.trans y1)
        obtain ⟨z, e2, _⟩ := DataW.trod_int Try.underlying3 (f2.trans y2)
        simp only [List.cons.injEq, and_true] at e0 e1 e2
        subst e0; subst e1; subst e2
        have g0 := hat 0 (by omega)
        have g1 := hat 1 (by omega)
        have g2 := hat 2 (by omega)
        rw [Go.Deep.add_add] at g0 g1 g2
        exact ⟨x, y, z, by simpa using g0, by simpa using g1, by simpa using g2⟩
    have each' : ∀ i, ∃ q : Vtx, i < m → w.cell? (a.add (i * 3)) = some (.int .i64 q.1) ∧ w.cell? (a.add (i * 3 + 1)) = some (.int .i64 q.2.1) ∧ w.cell? (a.add (i * 3 + 2)) = some (.int .i64 q.2.2) := by
      intro i
      by_cases him : i < m
      · obtain ⟨x, y, z, h⟩ := each i him; exact ⟨(x, y, z), fun _ => h⟩
      · exact ⟨(0, 0, 0), fun h => (him h).elim⟩
    obtain ⟨F, hF⟩ : ∃ F : Nat → Vtx, ∀ i, i < m → w.cell? (a.add (i * 3)) = some (.int .i64 (F i).1) ∧ w.cell? (a.add (i * 3 + 1)) = some (.int .i64 (F i).2.1) ∧ w.cell? (a.add (i * 3 + 2)) = some (.int .i64 (F i).2.2) :=
      ⟨fun i => (each' i).choose, fun i hi => (each' i).choose_spec hi⟩
    have hlm : ((List.range m).map F).length = m := by simp
    have hrow : ((flat ((List.range m).map F)).drop 0).take (((List.range m).map F).length * 3) = flat ((List.range m).map F) := by
      rw [List.drop_zero, List.take_of_length_le (by rw [flat_length]; exact Nat.le_refl _)]
    have hvx : ∀ i, i < m → vx ((List.range m).map F) i = F i := fun i hi => by simp [vx, hi]
    have hcell : ∀ j, j < m * 3 → w.cell? (a.add j) = some (((flat ((List.range m).map F))[j]?).getD (.bool false)) := by
      intro j hj
      have hi : j / 3 < m := by omega
      obtain ⟨c0, c1, c2⟩ := hF (j / 3) hi
      have r0 := flat_at0 hrow (k := j / 3) (by omega)
      have r1 := flat_at1 hrow (k := j / 3) (by omega)
      have r2 := flat_at2 hrow (k := j / 3) (by omega)
      rw [hvx _ hi, Nat.zero_add] at r0 r1 r2
      obtain h3 | h3 | h3 : j % 3 = 0 ∨ j % 3 = 1 ∨ j % 3 = 2 := by omega
      · rw [show j / 3 * 3 = j by omega] at c0 r0; rw [c0, r0]; rfl
      · rw [show j / 3 * 3 + 1 = j by omega] at c1 r1; rw [c1, r1]; rfl
      · rw [show j / 3 * 3 + 2 = j by omega] at c2 r2; rw [c2, r2]; rfl
    have hsplit : (List.range m).map F = (List.range len').map F ++ ((List.range m).map F).drop len' := by
      have : (List.range len').map F = ((List.range m).map F).take len' := by rw [← List.map_take, List.take_range, Nat.min_eq_left (by omega)]
      rw [this, List.take_append_drop]
    refine ⟨(List.range len').map F, Or.inr ⟨a, cap', by rw [hvv]; simp, by simpa using hl, fun h0 => ?_⟩⟩
    simp only [List.length_map, List.length_range] at h0
    obtain ⟨b, off, C, t, fr, rfl, g1, g2⟩ := cells_row (N := m * 3) (by omega) hcell
    refine ⟨b, off, C, t, fr, rfl, g1, fun i x hx => ?_⟩
    have hil : i < (flat ((List.range len').map F)).length := (List.getElem?_eq_some_iff.1 hx).1
    rw [flat_length, List.length_map, List.length_range] at hil
    rw [g2 i (by omega)]
    have : (flat ((List.range m).map F))[i]? = some x := by
      rw [hsplit, flat_append, List.getElem?_append_left (by rw [flat_length, List.length_map, List.length_range]; exact hil)]; exact hx
    rw [this]; rfl
end
end Go.Proofs.Ytlealdhgajomhaa
