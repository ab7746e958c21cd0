/- The reference's Bits, Evaluate and Table: walks. -/
import Derived.Test.YtlealdhgajomhaaBddV
import Derived.Test.YtlealdhgajomhaaBddH
namespace Go.Proofs.Ytlealdhgajomhaa
set_option linter.unusedVariables false
open Go.AI
set_option linter.unusedSimpArgs false

/-! ### tables by a rule -/
def tab (N : Nat) (f : Nat → Bool) : List Bool := (List.range N).map f
theorem tab_len (N : Nat) (f : Nat → Bool) : (tab N f).length = N := by simp [tab]
theorem tab_congr {N : Nat} {f g : Nat → Bool} (h : ∀ i, i < N → f i = g i) : tab N f = tab N g := List.map_congr_left fun i hi => h i (List.mem_range.1 hi)
theorem bt_tab {N i : Nat} {f : Nat → Bool} (h : i < N) : bt (tab N f) i = f i := by simp [bt, tab, h]
theorem bt_tab_out {N i : Nat} {f : Nat → Bool} (h : N ≤ i) : bt (tab N f) i = false := by simp [bt, tab, h]
theorem tab_bt (t : List Bool) : t = tab t.length (bt t) := List.ext_getElem (by rw [tab_len]) fun i h1 h2 => by simp [tab, bt, h1]
theorem tab_set {N n : Nat} {f : Nat → Bool} {x : Bool} : (tab N f).set n x = tab N (fun i => if i = n then x else f i) := by
  refine List.ext_getElem (by simp [tab]) fun i h1 h2 => ?_
  rw [List.getElem_set]
  simp only [tab, List.getElem_map, List.getElem_range]
  by_cases h : n = i
  · subst h; simp
  · have : ¬ i = n := fun e => h e.symm
    simp [h, this]
theorem tab_zero (N : Nat) : List.replicate N false = tab N (fun _ => false) := List.ext_getElem (by simp [tab]) fun i h1 h2 => by simp [tab]
/-- a table half way -/
def half (n : Nat) (f g : Nat → Bool) : Nat → Bool := fun i => if i < n then f i else g i
theorem half_set {N n : Nat} {f g : Nat → Bool} : (tab N (half n f g)).set n (f n) = tab N (half (n + 1) f g) := by
  rw [tab_set]
  refine tab_congr fun i _ => ?_
  unfold half
  by_cases h : i = n
  · subst h; simp
  · by_cases h2 : i < n
    · rw [if_neg h, if_pos h2, if_pos (by omega)]
    · rw [if_neg h, if_neg h2, if_neg (by omega)]
theorem half_0 {N : Nat} {f g : Nat → Bool} : tab N g = tab N (half 0 f g) := tab_congr fun i _ => by simp [half]
theorem half_N {N : Nat} {f g : Nat → Bool} : tab N (half N f g) = tab N f := tab_congr fun i h => by simp [half, h]

theorem mkB (N : Nat) (f : Nat → Bool) (hN : N ≤ 1024) (id : Nat) : vMake Try.prog 43 (.int .i64 N) (.int .i64 N) id = some (.slice (some ⟨id, 0, none⟩) N N, .cells ((tab N (half 0 f fun _ => false)).map Value.bool) (rowMeta 1)) := by
  have h := mk_eq (P := Try.prog) (t := 43) (id := id) (n := N) Try.underlying43 if4 (by omega) (by omega) rfl rfl (by omega)
  rw [show (Value.cells (.bool false)).toList = [.bool false] from rfl, zeros_false, tab_zero, half_0 (f := f)] at h
  exact h

/-- a table of one's own -/
def TBo (lo hi : Nat) (σ : St) (v : Value) (N : Nat) (f : Nat → Bool) : Prop := ∃ id, v = .slice (some ⟨id, 0, none⟩) N N ∧ lo ≤ id ∧ id < hi ∧ σ.row id = some ((tab N f).map Value.bool, rowMeta 1)
theorem TBo.un {lo hi N : Nat} {σ τ : St} {v : Value} {f : Nat → Bool} (h : TBo lo hi σ v N f) (e : UN lo hi σ τ) : TBo lo hi τ v N f := by
  obtain ⟨id, h1, h2, h3, h4⟩ := h
  exact ⟨id, h1, h2, h3, (e.row id h2 h3).trans h4⟩
/-- values that are read -/
def SB (σ : St) (v : Value) (bs : List Bool) : Prop := ∃ o c, v = .slice o bs.length c ∧ (0 < bs.length → ∃ id off row m, o = some ⟨id, off, none⟩ ∧ id < σ.next ∧ σ.row id = some (row, m) ∧ (row.drop off).take bs.length = bs.map Value.bool)
theorem SB.mono {σ τ : St} {v : Value} {bs : List Bool} (h : SB σ v bs) (e : EX σ τ) : SB τ v bs := by
  obtain ⟨o, c, h1, h2⟩ := h
  refine ⟨o, c, h1, fun h0 => ?_⟩
  obtain ⟨id, off, row, m, h3, h4, h5, h6⟩ := h2 h0
  exact ⟨id, off, row, m, h3, by have := e.next; omega, (e.row id h4).trans h5, h6⟩
theorem TBo.sb {lo hi N : Nat} {σ : St} {v : Value} {f : Nat → Bool} (h : TBo lo hi σ v N f) (hh : hi ≤ σ.next) : SB σ v (tab N f) := by
  obtain ⟨id, h1, h2, h3, h4⟩ := h
  refine ⟨some ⟨id, 0, none⟩, N, by rw [tab_len]; exact h1, fun _ => ⟨id, 0, _, _, rfl, by omega, h4, ?_⟩⟩
  rw [List.drop_zero, List.take_of_length_le (by rw [List.length_map]; exact Nat.le_refl _)]
theorem SB.at {σ : St} {id off : Nat} {row : List Value} {m : Mta} {bs : List Bool} (h : (row.drop off).take bs.length = bs.map Value.bool) {i : Nat} (hi : i < bs.length) : row[off + i]? = some (.bool (bt bs i)) := tb_at h hi

/-! ### Bits -/
theorem Bits_spec (n : Nat) (hn : n < 2 ^ 62) (σ : St) : wpc Try.prog 18 #[.int .i64 n] σ fun r σ' => TBo σ.next σ'.next σ' r 10 (bits n) ∧ EX σ σ' := by
  refine body_go Try.func18 rfl ?_
  have hr := Try.results18
  have hmk := mkB 10 (bits n) (by omega)
  rw [show (((10 : Nat) : Int)) = 10 from rfl] at hmk
  simp only [c_seq, RUNA, Nat.reduceAdd, Nat.reduceMod, Nat.reduceDiv, Nat.reduceSub, Nat.reduceMul, Nat.reduceEqDiff, Nat.reduceBEq, Nat.reduceLeDiff, Int.reduceToNat, fillS, wantG, vBox, Value.cells, one, putAt, Option.getD_some, Option.map_some, Option.bind_some, ne_eq, Option.some.injEq, Prod.mk.injEq, exists_and_left, exists_eq_left', exists_eq_left, List.size_toArray, List.length_cons, List.length_nil, if_true, if_false, exists_eq', exists_const, List.getElem?_cons_zero, List.getElem?_cons_succ, List.map_toArray, List.map_cons, List.map_nil, beq_iff_eq, List.all_cons, List.all_nil, cond_true, List.set_cons_zero, List.set_cons_succ, List.drop_zero, List.drop_succ_cons, List.take_succ_cons, List.take_zero, List.getElem?_toArray, Option.map_none, Option.getD_none, hr, hmk]
  refine loop_go (fun m S τ => S.at 0 = .int .i64 n ∧ S.at 3 = .slice (some ⟨σ.next + 1, 0, none⟩) 10 10 ∧ EX σ τ ∧ σ.next + 1 < τ.next ∧
    ∃ i : Nat, S.at 4 = .int .i64 i ∧ i ≤ 10 ∧ m = 10 - i ∧ τ.row (σ.next + 1) = some ((tab 10 (half i (bits n) fun _ => false)).map Value.bool, rowMeta 1)) 10 ?_ ?_
  · simp only [c_seq, RUNA, Nat.reduceAdd, Nat.reduceMod, Nat.reduceDiv, Nat.reduceSub, Nat.reduceMul, Nat.reduceEqDiff, Nat.reduceBEq, Nat.reduceLeDiff, Int.reduceToNat, fillS, wantG, vBox, Value.cells, one, putAt, Option.getD_some, Option.map_some, Option.bind_some, ne_eq, Option.some.injEq, Prod.mk.injEq, exists_and_left, exists_eq_left', exists_eq_left, List.size_toArray, List.length_cons, List.length_nil, if_true, if_false, exists_eq', exists_const, List.getElem?_cons_zero, List.getElem?_cons_succ, List.map_toArray, List.map_cons, List.map_nil, beq_iff_eq, List.all_cons, List.all_nil, cond_true, List.set_cons_zero, List.set_cons_succ, List.drop_zero, List.drop_succ_cons, List.take_succ_cons, List.take_zero, List.getElem?_toArray, Option.map_none, Option.getD_none]
    refine ⟨?_, by omega, 0, rfl, by omega, by omega, rfl⟩
    repeat first | assumption | exact EXn.refl _ _ | refine EXn.more ?_ _ | refine EXn.put ?_ (by omega) _ | refine EX.trans ?_ (by assumption)
  · rintro _ S τ ⟨s0, s3, hE, hx, i, s4, hi, rfl, rt⟩
    by_cases hlt : i < 10
    · have hd : decide ((i : Int) < 10) = true := by simp; omega
      have z2 : (0 : Int) ≤ (i : Int) := by omega
      have z3 : (i : Int) < ((10 : Nat) : Int) := by omega
      have hw : IntKind.i64.wrap ((i : Int) + 1) = ((i + 1 : Nat) : Int) := by rw [wrap64 (by omega) (by omega)]; rfl
      have hle : i + 1 ≤ ((tab 10 (half i (bits n) fun _ => false)).map Value.bool).length := by rw [List.length_map, tab_len]; omega
      have hsh := shr_nat (n := n) (i := i) (by omega)
      have hlt2 : n / 2 ^ i < 2 ^ 62 := Nat.lt_of_le_of_lt (Nat.div_le_self _ _) (by omega)
      have han := and_one hlt2
      simp only [c_seq, RUNA, Nat.reduceAdd, Nat.reduceMod, Nat.reduceDiv, Nat.reduceSub, Nat.reduceMul, Nat.reduceEqDiff, Nat.reduceBEq, Nat.reduceLeDiff, Int.reduceToNat, fillS, wantG, vBox, Value.cells, one, putAt, Option.getD_some, Option.map_some, Option.bind_some, ne_eq, Option.some.injEq, Prod.mk.injEq, exists_and_left, exists_eq_left', exists_eq_left, List.size_toArray, List.length_cons, List.length_nil, if_true, if_false, exists_eq', exists_const, List.getElem?_cons_zero, List.getElem?_cons_succ, List.map_toArray, List.map_cons, List.map_nil, beq_iff_eq, List.all_cons, List.all_nil, cond_true, List.set_cons_zero, List.set_cons_succ, List.drop_zero, List.drop_succ_cons, List.take_succ_cons, List.take_zero, List.getElem?_toArray, Option.map_none, Option.getD_none, TYA, s0, s3, s4, hd, n_shr z2, hsh, han, ia43 z2 z3, rt, hle, hw]
      refine ⟨10 - (i + 1), by omega, ?_, by omega, i + 1, rfl, by omega, rfl, ?_⟩
      · refine EXn.more (EXn.put (EXn.more (EXn.more hE _) _) (by omega) _) _
      · rw [← half_set, List.map_set]; rfl
    · have hd : decide ((i : Int) < 10) = false := by simp; omega
      have hn1 : i = 10 := by omega
      rw [hn1, half_N] at rt
      simp only [c_seq, RUNA, Nat.reduceAdd, Nat.reduceMod, Nat.reduceDiv, Nat.reduceSub, Nat.reduceMul, Nat.reduceEqDiff, Nat.reduceBEq, Nat.reduceLeDiff, Int.reduceToNat, fillS, wantG, vBox, Value.cells, one, putAt, Option.getD_some, Option.map_some, Option.bind_some, ne_eq, Option.some.injEq, Prod.mk.injEq, exists_and_left, exists_eq_left', exists_eq_left, List.size_toArray, List.length_cons, List.length_nil, if_true, if_false, exists_eq', exists_const, List.getElem?_cons_zero, List.getElem?_cons_succ, List.map_toArray, List.map_cons, List.map_nil, beq_iff_eq, List.all_cons, List.all_nil, cond_true, List.set_cons_zero, List.set_cons_succ, List.drop_zero, List.drop_succ_cons, List.take_succ_cons, List.take_zero, List.getElem?_toArray, Option.map_none, Option.getD_none, TYA, s0, s3, s4, hd, hr]
      refine ⟨⟨σ.next + 1, rfl, by omega, by omega, ?_⟩, ?_⟩
      · exact rt
      · repeat first | assumption | exact EXn.refl _ _ | refine EXn.more ?_ _ | refine EXn.put ?_ (by omega) _ | refine EX.trans ?_ (by assumption)
end Go.Proofs.Ytlealdhgajomhaa
