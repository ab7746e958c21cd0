/- The state changes: what is kept of the relation. -/
import Derived.Test.YtlealdhgajomhaaAiState
import Derived.Deep.Upon
namespace Go.AI
set_option linter.unusedVariables false
set_option linter.unusedSimpArgs false

section
variable {w0 : World} {P : Program} {μ : Mp} {σ : St} {w : World}

def upd (μ : Mp) (id : Nat) (p : Place) : Mp := fun k => if k = id then some p else μ k
theorem upd_same (μ : Mp) (id : Nat) (p : Place) : upd μ id p id = some p := by simp [upd]
theorem upd_ne {μ : Mp} {id k : Nat} {p : Place} (h : k ≠ id) : upd μ id p k = μ k := by simp [upd, h]
theorem upd_ext {μ : Mp} {id : Nat} (p : Place) (h : μ id = none) : ∀ k q, μ k = some q → upd μ id p k = some q := by
  intro k q hk
  rw [upd_ne]; exact hk
  intro e; subst e; rw [h] at hk; cases hk

theorem Sim.lt (S : Sim w0 P μ σ w) {id : Nat} {p : Place} {cs : List Value} {m : Mta} (hp : μ id = some p) (hg : σ.get id = some (.cells cs m)) (hm : σ.good m = true) : p.b < w.heap.size := by
  obtain ⟨C, t, fr, hC, _⟩ := (S.row id p cs m hp hg hm).row
  exact (Array.getElem?_eq_some_iff.1 hC).1

theorem Sim.lt_map (S : Sim w0 P μ σ w) {id : Nat} {p : Place} {es : List (Value × Value)} (hp : μ id = some p) (hg : σ.get id = some (.map es)) : p.b < w.heap.size := by
  obtain ⟨C, t, hC, _⟩ := (S.map id p es hp hg).map
  exact (Array.getElem?_eq_some_iff.1 hC).1

/-- an object that nothing points to yet -/
theorem Sim.put_new (S : Sim w0 P μ σ w) {id : Nat} {ob : AObj} (h : μ id = none) (hv : ∀ cs m g v, ob = .cells cs m → m.grp = some (g, v) → v ≤ σ.ver g) : Sim w0 P μ (σ.put id ob) w := by
  have hne : ∀ {k p}, μ k = some p → k ≠ id := by intro k p hk e; subst e; rw [h] at hk; cases hk
  have hget : ∀ {k p}, μ k = some p → (σ.put id ob).get k = σ.get k := by intro k p hk; rw [St.get_put, if_neg (hne hk)]
  refine ⟨S.kept, S.dom, S.glob, ?_, ?_, ?_, ?_, ?_, ?_⟩
  · intro k p cs m hp hg hm; rw [hget hp] at hg; exact S.row k p cs m hp hg hm
  · intro k p es hp hg; rw [hget hp] at hg; exact S.map k p es hp hg
  · intro i j p q cs ds m n hij hp hq hg hg' hm hn hw hs; rw [hget hp] at hg; rw [hget hq] at hg'; exact S.off i j p q cs ds m n hij hp hq hg hg' hm hn hw hs
  · intro i j p q cs ds m n hij hp hq hg hg' hm hn hw; rw [hget hp] at hg; rw [hget hq] at hg'; exact S.tip i j p q cs ds m n hij hp hq hg hg' hm hn hw
  · intro i j p q es fs hij hp hq hg hg'; rw [hget hp] at hg; rw [hget hq] at hg'; exact S.maps i j p q es fs hij hp hq hg hg'
  · intro k cs m g v hg hgr
    rw [St.get_put] at hg
    split at hg
    · cases hg; exact hv cs m g v rfl hgr
    · exact S.vers k cs m g v hg hgr

theorem Sim.next (S : Sim w0 P μ σ w) {n : Nat} (h : σ.next ≤ n) : Sim w0 P μ { σ with next := n } w :=
  ⟨S.kept, fun id hi => S.dom id (Nat.le_trans h hi), S.glob, S.row, S.map, S.off, S.tip, S.maps, S.vers⟩

theorem Sim.drawn (S : Sim w0 P μ σ w) (n : Nat) : Sim w0 P μ σ { w with drawn := n } :=
  ⟨⟨S.kept.os, S.kept.output, S.kept.size, S.kept.old, S.kept.new⟩, S.dom, S.glob, fun id p cs m hp hg hm => by
      obtain ⟨h1, h2, h3, h4⟩ := S.row id p cs m hp hg hm; exact ⟨h1, h2, h3, h4⟩,
    fun id p es hp hg => by obtain ⟨h1, h2⟩ := S.map id p es hp hg; exact ⟨h1, h2⟩, S.off, S.tip, S.maps, S.vers⟩

/-- what a new block holds -/
def NewAt (μ : Mp) (p : Place) (O : Obj) : AObj → Prop
  | .cells cs m => ∃ C t, O = .cells C t (0, 0) ∧ (∀ (i : Nat) (v : Value), cs[i]? = some v → ∃ u, C[i]? = some u ∧ VR μ v u) ∧ (m.tip = true → cs.length ≤ p.e ∧ p.e ≤ C.size) ∧ p.z = m.z
  | .map es => O = .map #[] 0 ∧ es = []

theorem push_old {w : World} {O : Obj} {k : Nat} (h : k < w.heap.size) : (w.heap.push O)[k]? = w.heap[k]? := by
  rw [Array.getElem?_push, if_neg (by omega)]
theorem push_new (w : World) (O : Obj) : (w.heap.push O)[w.heap.size]? = some O := by simp

/-- a new block -/
theorem Sim.alloc (S : Sim w0 P μ σ w) {id : Nat} {ob : AObj} {O : Obj} {p : Place} (h : μ id = none) (hid : id < σ.next) (hob : σ.get id = some ob) (N : NewAt μ p O ob) (hb : p.b = w.heap.size) (ho : p.o = 0) :
    Sim w0 P (upd μ id p) σ { w with heap := w.heap.push O } := by
  have hext := upd_ext p h
  have hsplit : ∀ {k q}, upd μ id p k = some q → (k = id ∧ q = p) ∨ (k ≠ id ∧ μ k = some q) := by
    intro k q hk
    by_cases e : k = id
    · subst e; rw [upd_same] at hk; cases hk; exact .inl ⟨rfl, rfl⟩
    · rw [upd_ne e] at hk; exact .inr ⟨e, hk⟩
  have hfar : ∀ {k q cs m}, μ k = some q → σ.get k = some (.cells cs m) → σ.good m = true → p.b ≠ q.b := by
    intro k q cs m hq hg hm; have := S.lt hq hg hm; omega
  refine ⟨⟨S.kept.os, S.kept.output, ?_, ?_, ?_⟩, ?_, ?_, ?_, ?_, ?_, ?_, ?_, S.vers⟩
  · have := S.kept.size; simp; omega
  · intro k hk; have := S.kept.size; show (w.heap.push O)[k]? = _; rw [push_old (by omega)]; exact S.kept.old k hk
  · intro k C t fr hk hC
    change (w.heap.push O)[k]? = _ at hC
    rw [Array.getElem?_push] at hC
    split at hC
    · cases hC
      cases ob with
      | cells cs m => obtain ⟨C', t', e, _⟩ := N; cases e; rfl
      | map es => obtain ⟨e, _⟩ := N; cases e
    · exact S.kept.new k C t fr hk hC
  · intro k hk; rw [upd_ne (by omega)]; exact S.dom k hk
  · intro g hg
    obtain ⟨q, hq, h1, h2⟩ := S.glob g hg
    exact ⟨q, hext g q hq, h1, h2⟩
  · intro k q cs m hq hg hm
    rcases hsplit hq with ⟨rfl, rfl⟩ | ⟨hk, hq'⟩
    · rw [hob] at hg; cases hg
      obtain ⟨C, t, rfl, hcs, htip, hz⟩ := N
      refine ⟨⟨C, t, (0, 0), by rw [hb]; exact push_new w _, fun i v hi => ?_, fun ht => (htip ht).2⟩, fun _ => by have := S.kept.size; omega, fun ht => by rw [ho]; have := (htip ht).1; omega, hz⟩
      obtain ⟨u, hu, hr⟩ := hcs i v hi
      exact ⟨u, by rw [ho, Nat.zero_add]; exact hu, hr.mono' hext⟩
    · obtain ⟨⟨C, t, fr, hC, hcs, htip⟩, h2, h3, h4⟩ := S.row k q cs m hq' hg hm
      exact ⟨⟨C, t, fr, (push_old (S.lt hq' hg hm)).trans hC, fun i v hi => let ⟨u, hu, hr⟩ := hcs i v hi; ⟨u, hu, hr.mono' hext⟩, htip⟩, h2, h3, h4⟩
  · intro k q es hq hg
    rcases hsplit hq with ⟨rfl, rfl⟩ | ⟨hk, hq'⟩
    · rw [hob] at hg; cases hg
      obtain ⟨rfl, rfl⟩ := N
      exact ⟨⟨#[], 0, by rw [hb]; exact push_new w _, .nil, .nil⟩, by have := S.kept.size; omega⟩
    · obtain ⟨⟨ES, c, hC, h1, h2⟩, h3⟩ := S.map k q es hq' hg
      exact ⟨⟨ES, c, (push_old (S.lt_map hq' hg)).trans hC, h1.mono' hext, h2.mono' hext⟩, h3⟩
  · intro i j a b cs ds m n hij ha hb' hg hg' hm hn hw hs
    rcases hsplit ha with ⟨rfl, rfl⟩ | ⟨hi, ha'⟩
    · rcases hsplit hb' with ⟨rfl, rfl⟩ | ⟨hj, hb''⟩
      · exact absurd rfl hij
      · exact fun e => absurd e (hfar hb'' hg' hn)
    · rcases hsplit hb' with ⟨rfl, rfl⟩ | ⟨hj, hb''⟩
      · exact fun e => absurd e.symm (hfar ha' hg hm)
      · exact S.off i j a b cs ds m n hij ha' hb'' hg hg' hm hn hw hs
  · intro i j a b cs ds m n hij ha hb' hg hg' hm hn hw
    rcases hsplit ha with ⟨rfl, rfl⟩ | ⟨hi, ha'⟩
    · rcases hsplit hb' with ⟨rfl, rfl⟩ | ⟨hj, hb''⟩
      · exact absurd rfl hij
      · exact ⟨fun e => absurd e (hfar hb'' hg' hn), fun _ e => absurd e (hfar hb'' hg' hn)⟩
    · rcases hsplit hb' with ⟨rfl, rfl⟩ | ⟨hj, hb''⟩
      · exact ⟨fun e => absurd e.symm (hfar ha' hg hm), fun _ e => absurd e.symm (hfar ha' hg hm)⟩
      · exact S.tip i j a b cs ds m n hij ha' hb'' hg hg' hm hn hw
  · intro i j a b es fs hij ha hb' hg hg'
    rcases hsplit ha with ⟨rfl, rfl⟩ | ⟨hi, ha'⟩
    · rcases hsplit hb' with ⟨rfl, rfl⟩ | ⟨hj, hb''⟩
      · exact absurd rfl hij
      · have := S.lt_map hb'' hg'; omega
    · rcases hsplit hb' with ⟨rfl, rfl⟩ | ⟨hj, hb''⟩
      · have := S.lt_map ha' hg; omega
      · exact S.maps i j a b es fs hij ha' hb'' hg hg'

/-! ### operations that make a block -/
theorem VRL.at {xs us : List Value} (r : VRL μ xs us) : ∀ (i : Nat) (v : Value), xs[i]? = some v → ∃ u, us.toArray[i]? = some u ∧ VR μ v u := by
  intro i v h
  obtain ⟨u, hu, hr⟩ := r.get h
  exact ⟨u, by simpa using hu, hr⟩

theorem VRL.atA {xs : List Value} {us : Array Value} (r : VRL μ xs us.toList) : ∀ (i : Nat) (v : Value), xs[i]? = some v → ∃ u, us[i]? = some u ∧ VR μ v u := by
  intro i v h
  obtain ⟨u, hu, hr⟩ := r.get h
  exact ⟨u, by simpa using hu, hr⟩

theorem zerosOf_length (z : List Value) (n : Nat) : (zerosOf z n).length = n * z.length := by
  induction n with
  | zero => simp [zerosOf]
  | succ n ih => simp [zerosOf, ih, Nat.succ_mul, Nat.add_comm]

theorem zerosOf_get (z : List Value) (hz : 0 < z.length) : ∀ (n i : Nat), (zerosOf z n)[i]? = if i < n * z.length then z[i % z.length]? else none := by
  intro n
  induction n with
  | zero => intro i; simp [zerosOf]
  | succ n ih =>
    intro i
    simp only [zerosOf, List.getElem?_append]
    split
    · rename_i h
      rw [if_pos (by rw [Nat.succ_mul]; omega), Nat.mod_eq_of_lt h]
    · rename_i h
      rw [ih, Nat.succ_mul]
      have : (i - z.length) % z.length = i % z.length := by
        conv => rhs; rw [show i = (i - z.length) + z.length from by omega]
        rw [Nat.add_mod_right]
      rw [this]
      by_cases h' : i - z.length < n * z.length
      · rw [if_pos h', if_pos (by omega)]
      · rw [if_neg h', if_neg (by omega)]

/-- the model's row of zeros -/
theorem zeros_eq (z : Array Value) (n s : Nat) (hz : z.size = s) (hs : 1 ≤ s) : (Array.map (fun x => z[x % z.size]!) (Array.range (n * s))) = (zerosOf z.toList n).toArray := by
  apply Array.ext'
  apply List.ext_getElem?
  intro i
  rw [zerosOf_get z.toList (by simp; omega)]
  simp only [Array.toList_map, Array.toList_range, List.getElem?_map, Array.length_toList, hz]
  by_cases h : i < n * s
  · rw [if_pos h, List.getElem?_range h]
    have h2 : i % s < z.size := by rw [hz]; exact Nat.mod_lt _ (by omega)
    simp [h2]
  · rw [if_neg h]
    simp; omega

theorem zerosOf_plain {z : List Value} (h : z.all plain0 = true) (n : Nat) : (zerosOf z n).all plain0 = true := by
  induction n with
  | zero => rfl
  | succ n ih => simp only [zerosOf, List.all_append, Bool.and_eq_true]; exact ⟨h, ih⟩

theorem aalloc_ok {ρ ρ' : Operand → Value} {o : Oper} {id : Nat} {v : Value} {ob : AObj} (w : World) (hρ : ∀ x ∈ o.op.operands, VR μ (ρ x) (ρ' x)) (h : aalloc P ρ o id = some (v, ob)) :
    ∃ v' O p, (execOp ρ' o).run P w = .ok (.value v') { w with heap := w.heap.push O } ∧ p.b = w.heap.size ∧ p.o = 0 ∧ NewAt μ p O ob ∧ (∀ μ' : Mp, μ' id = some p → VR μ' v v') := by
  unfold aalloc at h
  unfold execOp
  cases ho : o.op <;> simp only [ho] at h hρ ⊢ <;> try cases h
  case alloc t =>
    split at h <;> try cases h
    rename_i z hz
    cases hp : z.cells.toList.all plain0 with
    | false => rw [hp] at h; cases h
    | true =>
      rw [hp] at h
      simp only [cond_true, Option.some.injEq, Prod.mk.injEq] at h
      obtain ⟨rfl, rfl⟩ := h
      refine ⟨.pointer (some ⟨w.heap.size, 0, none⟩), .cells z.cells t (0, 0), ⟨w.heap.size, 0, 0, 0⟩, ?_, rfl, rfl, ⟨z.cells, t, rfl, VRL.atA (.same hp), (fun h => by cases h), rfl⟩, fun μ' hμ => VR.ptr id 0 _ hμ⟩
      simp [Instr.alloc, still_run hz, newVar, newRow]
  case box t x =>
    have hx := hρ x (by simp [Op.operands])
    cases hp : (ρ x).cells.toList.all one with
    | false => rw [hp] at h; cases h
    | true =>
      rw [hp] at h
      simp only [cond_true, Option.some.injEq, Prod.mk.injEq] at h
      obtain ⟨rfl, rfl⟩ := h
      refine ⟨.pointer (some ⟨w.heap.size, 0, none⟩), .cells (ρ' x).cells t (0, 0), ⟨w.heap.size, 0, 0, 0⟩, ?_, rfl, rfl, ⟨_, t, rfl, VRL.atA hx.cells, (fun h => by cases h), rfl⟩, fun μ' hμ => VR.ptr id 0 _ hμ⟩
      simp [Instr.box, newVar, newRow]
  case buildSlice t len parts =>
    split at h <;> try cases h
    rename_i e hu
    split at h <;> try cases h
    rename_i s hs
    split at h <;> try cases h
    rename_i z hz
    cases hp : (z.cells.toList.all plain0 && Nat.ble (len * s) 1000000 && Nat.beq z.cells.size s && Nat.ble 1 s) with
    | false => rw [hp] at h; cases h
    | true =>
      rw [hp] at h
      simp only [Bool.and_eq_true, nble, nbeq, decide_eq_true_eq] at hp
      obtain ⟨⟨⟨hp, hle⟩, hzs⟩, hs1⟩ := hp
      simp only [cond_true, Option.map_eq_some_iff, Prod.mk.injEq] at h
      obtain ⟨cs, hf, rfl, rfl⟩ := h
      have hPR : PR μ (parts.map fun (i, x) => (i, ρ x)).toList (parts.map fun (i, x) => (i, ρ' x)).toList := by
        simpa using PR_map parts.toList (fun x hx => hρ x.2 (by simp [Op.operands]; exact ⟨_, Array.mem_toList_iff.1 hx⟩))
      have hz0 := zerosOf_plain hp len
      obtain ⟨cs', hf', hr⟩ := fill_ok (μ := μ) _ _ _ _ _ _ hPR (VRL.toArray_cells (.same hz0)) hf
      refine ⟨.slice (some ⟨w.heap.size, 0, none⟩) len len, .cells cs' e (0, 0), ⟨w.heap.size, 0, len * s, s⟩, ?_, rfl, rfl, ⟨cs', e, rfl, VRL.atA hr, (fun h => by cases h), rfl⟩,
        fun μ' hμ => VR.slc id 0 len len len _ hμ (fun _ => rfl) (Nat.le_refl _) (by simp)⟩
      unfold Instr.buildSlice
      have hbig : ¬ (len * s > 2 ^ 24) := by omega
      simp only [Sem.run_bind, still_run (w := w) (show still P (underlying t) = some (.slice e) by rw [still_underlying]; exact hu), Result.andThen_ok,
        still_run (w := w) (show still P (Go.sizeOf e) = some s by rw [still_sizeOf]; exact hs), if_neg hbig]
      by_cases h0 : len * s = 0
      · rw [if_pos h0]
        have hl0 : len = 0 := by
          rcases Nat.mul_eq_zero.1 h0 with h | h
          · exact h
          · omega
        subst hl0
        simp only [zerosOf] at hf'
        simp only [Sem.run_bind, Sem.run_pure, Result.andThen_ok, Nat.zero_mul, Array.range_zero', Array.map_empty]
        have hf'' : Instr.fill (fun i => some (i * s, s)) #[] (parts.map fun (i, x) => (i, ρ' x)).toList = some cs' := hf'
        rw [hf'']
        simp [newRow]
      · rw [if_neg h0]
        simp only [Sem.run_bind, still_run (w := w) hz, Sem.run_pure, Result.andThen_ok, zeros_eq z.cells len s hzs hs1]
        have hf'' : Instr.fill (fun i => some (i * s, s)) (zerosOf z.cells.toList len).toArray (parts.map fun (i, x) => (i, ρ' x)).toList = some cs' := hf'
        rw [hf'']
        simp [newRow]
  case makeSlice t l c =>
    have hl := hρ l (by simp [Op.operands])
    have hc := hρ c (by simp [Op.operands])
    split at h <;> try cases h
    rename_i e n k hu hl' hc'
    rw [hl'] at hl
    rw [hc'] at hc
    rw [hl.int_inv, hc.int_inv]
    split at h <;> try cases h
    rename_i info hi
    split at h <;> try cases h
    rename_i z hz
    cases hp : (decide (0 ≤ n) && decide (n ≤ k) && decide (k * (info.bytes : Int) ≤ 1073741824) && decide (k ≤ 1073741824) && z.cells.toList.all plain0 && Nat.beq z.cells.size info.size && Nat.ble 1 info.size) with
    | false => rw [hp] at h; cases h
    | true =>
      rw [hp] at h
      simp only [Bool.and_eq_true, nble, nbeq, decide_eq_true_eq] at hp
      obtain ⟨⟨⟨⟨⟨⟨h0, hnk⟩, hkb⟩, hk⟩, hpz⟩, hzs⟩, hs1⟩ := hp
      have hrun := run_make (P := P) w t e info z hu hi hz .i64 .i64 n k h0 hnk (by rw [Int.mul_comm]; omega) (by omega)
      have hmade : madeCells z.cells (k.toNat * info.size) = (zerosOf z.cells.toList k.toNat).toArray := by
        unfold madeCells
        exact zeros_eq z.cells k.toNat info.size hzs hs1
      have hzl : z.cells.toList.length = info.size := by simpa using hzs
      simp only [cond_true] at h
      cases hnk' : decide (n = k) with
      | true =>
        rw [hnk'] at h
        simp only [cond_true, Option.some.injEq, Prod.mk.injEq] at h
        obtain ⟨rfl, rfl⟩ := h
        have : n = k := by simpa using hnk'
        subst this
        refine ⟨.slice (some ⟨w.heap.size, 0, none⟩) n.toNat n.toNat, .cells (zerosOf z.cells.toList n.toNat).toArray e (0, 0), ⟨w.heap.size, 0, n.toNat * info.size, info.size⟩, ?_, rfl, rfl,
          ⟨_, e, rfl, VRL.at (.same (zerosOf_plain hpz _)), (fun h => by cases h), rfl⟩, fun μ' hμ => VR.slc id 0 _ _ _ _ hμ (fun _ => rfl) (Nat.le_refl _) (by simp)⟩
        simp only [Sem.run_bind, hrun, hmade, Result.andThen_ok, Sem.run_pure]
        rfl
      | false =>
        rw [hnk'] at h
        simp only [cond_false, Option.some.injEq, Prod.mk.injEq] at h
        obtain ⟨rfl, rfl⟩ := h
        refine ⟨.slice (some ⟨w.heap.size, 0, none⟩) n.toNat k.toNat, .cells (zerosOf z.cells.toList k.toNat).toArray e (0, 0), ⟨w.heap.size, 0, k.toNat * info.size, info.size⟩, ?_, rfl, rfl,
          ⟨_, e, rfl, ?_, (fun _ => ?_), rfl⟩, fun μ' hμ => VR.slc id 0 _ _ _ _ hμ (fun e => by omega) (by omega) (by simp)⟩
        · simp only [Sem.run_bind, hrun, hmade, Result.andThen_ok, Sem.run_pure]
          rfl
        · intro i v hv
          have hlt : i < n.toNat * z.cells.toList.length := by
            rw [zerosOf_get _ (by omega)] at hv
            split at hv
            · assumption
            · cases hv
          rw [zerosOf_get _ (by omega), if_pos hlt] at hv
          have hlt' : i < k.toNat * z.cells.toList.length := Nat.lt_of_lt_of_le hlt (Nat.mul_le_mul_right _ (by omega))
          have hpl : plain0 v = true := List.all_eq_true.1 hpz v (List.mem_of_getElem? hv)
          refine ⟨v, ?_, .same v hpl⟩
          have : (zerosOf z.cells.toList k.toNat)[i]? = some v := by rw [zerosOf_get _ (by omega), if_pos hlt']; exact hv
          simpa using this
        · constructor
          · show (zerosOf z.cells.toList n.toNat).length ≤ k.toNat * info.size
            rw [zerosOf_length, hzl]; exact Nat.mul_le_mul_right _ (by omega)
          · show k.toNat * info.size ≤ (zerosOf z.cells.toList k.toNat).toArray.size
            simp [zerosOf_length, hzs]
  case makeMap t r =>
    cases r with
    | none =>
      simp only [hintOK, cond_true, Option.some.injEq, Prod.mk.injEq] at h
      obtain ⟨rfl, rfl⟩ := h
      refine ⟨.map (some w.heap.size), .map #[] 0, ⟨w.heap.size, 0, 0, 0⟩, ?_, rfl, rfl, ⟨rfl, rfl⟩, fun μ' hμ => VR.mp id _ hμ⟩
      simp [Instr.makeMap]
    | some x =>
      have hx := hρ x (by simp [Op.operands])
      simp only [hintOK] at h
      split at h
      · rename_i k n kt et hxe hu
        rw [hxe] at hx
        simp only [cond_true, Option.some.injEq, Prod.mk.injEq] at h
        obtain ⟨rfl, rfl⟩ := h
        refine ⟨.map (some w.heap.size), .map #[] 0, ⟨w.heap.size, 0, 0, 0⟩, ?_, rfl, rfl, ⟨rfl, rfl⟩, fun μ' hμ => VR.mp id _ hμ⟩
        simp only [Option.map_some, hx.int_inv, Instr.makeMap, Sem.run_bind, still_run (w := w) (show still P (underlying t) = some (.map kt et) by rw [still_underlying]; exact hu), Result.andThen_ok]
        simp [asInt, asIntOf]
      · cases h

end
end Go.AI
