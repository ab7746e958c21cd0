/- The law BddValue: the walk. -/
import Derived.Test.YtlealdhgajomhaaBddLw
import Derived.Test.YtlealdhgajomhaaBddAj
namespace Go.Proofs.Ytlealdhgajomhaa
set_option linter.unusedVariables false
open Go.AI
set_option linter.unusedSimpArgs false

theorem slice_to {σ : St} {id N k : Nat} {bs : List Bool} {m : Mta} (hid : id < σ.next) (hr : σ.row id = some (bs.map Value.bool, m)) (hz : m.z = 1) (hb : bs.length = N) (hk : k ≤ N) (hN : 0 < N) :
    ∃ sv, aslice Try.prog σ 43 (.slice (some ⟨id, 0, none⟩) N N) none (some (.int .i64 k)) none = some sv ∧ SB σ sv (bs.take k) := by
  have hlen : (bs.take k).length = k := by rw [List.length_take]; omega
  by_cases h0 : 0 < k
  · obtain ⟨c', hc⟩ := slice_in (P := Try.prog) (σ := σ) (t := 43) (id := id) (off := 0) (len := N) (c := N) (lo := none) (hi := some (.int .i64 k)) (l := none) (h := some (k : Int)) Try.underlying43 sz4 hr hz rfl rfl (by simp) (by simp; omega) (by simp; omega)
    refine ⟨_, hc, some ⟨id, 0, none⟩, c', ?_, fun _ => ⟨id, 0, _, m, rfl, hid, hr, ?_⟩⟩
    · simp; omega
    · rw [hlen, List.drop_zero, List.map_take]
  · obtain rfl : k = 0 := by omega
    have hz' : rowZ σ id 1 = true := by simp [rowZ, hr, hz, nbeq]
    have hm0 : intOpt (none : Option Value) = some none := rfl
    have hl0 : intOpt (some (.int .i64 0)) = some (some 0) := rfl
    have hn1 : ¬ 0 = N := by omega
    refine ⟨.slice (some ⟨id, 0, none⟩) 0 1, by simp [aslice, Try.underlying43, sz4, hl0, hm0, hz', nbeq, hn1, hN], some ⟨id, 0, none⟩, 1, ?_, fun h => ?_⟩
    · simp
    · simp at h
theorem DL0 (σ : St) : DL σ (.slice none 0 0) [] := ⟨none, 0, rfl, fun h => by simp at h⟩
theorem refEvaluate_is {σ : St} {a b : Value} {φ : As → Bool} {bs : List Bool} (ha : IsD 0 σ.next σ a φ) (hb : SB σ b bs) : wpc Try.prog 20 #[a, b] σ fun r σ' => r = .bool (φ (bt bs)) ∧ EX σ σ' := by
  obtain ⟨T, hD, hT, hφ⟩ := ha
  obtain ⟨hg, hR⟩ := cd_gd hT
  rw [← hφ]
  exact refEval_spec (hD.dv (Nat.le_refl _)) hg hR hT hb

theorem dsel_mv {P : Program} {ops : Array Oper} {ms : List Nat} {base i : Nat} {l : List (Nat × Oper)} {ps : List (Nat × (St → Prop))} {S : Slots} {σ : St} {Q : Slots → St → Prop} {d : Option Tmp} {ty : TypeId} {pos : String} {af : Array Edge} {x : Operand} {b : Bool} :
    dsel P ops ms base ⟨d, .move x, ty, pos, af, none⟩ l i ps S σ Q b ↔ dgo P ops ms base l ps (S.store d (if b = true then ev S x else undef)) σ Q := by
  cases b with
  | true => rw [dsel_t, y_move, if_pos rfl]
  | false => rw [dsel_f, if_neg (by simp)]
theorem p_g1 {x y : Bool} : apick (.bool x) (if x = true then .bool y else undef) (.bool false) = some (.bool (x && y)) := by cases x <;> rfl
theorem p_g2 {x y : Bool} : apick (.bool x) (.bool true) (if x = false then .bool y else undef) = some (.bool (x || y)) := by cases x <;> rfl
set_option maxRecDepth 20000 in
set_option maxHeartbeats 4000000 in
theorem value_go (cs : List Nat) (hc : ∀ k ∈ cs, k < 256) (cv : Value) (hcv : ArgS 1 cs.length cv) (n : Nat) (hn : n < 65536) :
    wpc Try.prog 5 #[cv, .int .u16 n] (stA [] (u8s cs)) fun r _ => r = .bool true := by
  refine body_go Try.func5 rfl ?_
  have hr := Try.results5
  simp only [c_seq, RUNA, RUNB, Nat.reduceAdd, Nat.reduceMod, Nat.reduceDiv, Nat.reduceSub, Nat.reduceMul, Nat.reduceEqDiff, Nat.reduceBEq, Nat.reduceLeDiff, Int.reduceToNat, fillS, wantG, vBox, Value.cells, one, putAt, hr]
  refine wpc_mono (awake_A [] (u8s cs)) ?_
  rintro r σ ⟨rfl, hF, hn5, r0, r1⟩
  obtain ⟨co, cc, rfl, hc1, hc2⟩ := id hcv
  simp only [c_seq, RUNA, RUNB, Nat.reduceAdd, Nat.reduceMod, Nat.reduceDiv, Nat.reduceSub, Nat.reduceMul, Nat.reduceEqDiff, Nat.reduceBEq, Nat.reduceLeDiff, Int.reduceToNat, fillS, wantG, vBox, Value.cells, one, putAt, TYA, hr]
  by_cases g2 : 40 < cs.length
  · have d2 : decide ((40 : Int) < (cs.length : Int)) = true := by simp; omega
    simp only [c_seq, RUNA, RUNB, Nat.reduceAdd, Nat.reduceMod, Nat.reduceDiv, Nat.reduceSub, Nat.reduceMul, Nat.reduceEqDiff, Nat.reduceBEq, Nat.reduceLeDiff, Int.reduceToNat, fillS, wantG, vBox, Value.cells, one, putAt, TYA, hr, d2]
  have d2 : decide ((40 : Int) < (cs.length : Int)) = false := by simp; omega
  simp only [c_seq, RUNA, RUNB, Nat.reduceAdd, Nat.reduceMod, Nat.reduceDiv, Nat.reduceSub, Nat.reduceMul, Nat.reduceEqDiff, Nat.reduceBEq, Nat.reduceLeDiff, Int.reduceToNat, fillS, wantG, vBox, Value.cells, one, putAt, TYA, hr, d2, bd38]
  have w1 : ¬ 1 = σ.next + 5 := by omega
  refine wpc_mono (diagram_spec hc (by omega) 2 (by omega) _ (Src.new (cc := cc) hc1 (by simp only [c_seq, RUNA, RUNB, Nat.reduceAdd, Nat.reduceMod, Nat.reduceDiv, Nat.reduceSub, Nat.reduceMul, Nat.reduceEqDiff, Nat.reduceBEq, Nat.reduceLeDiff, Int.reduceToNat, fillS, wantG, vBox, Value.cells, one, putAt, w1, r1]) (by omega) (by first | omega | (simp only [next_more, next_put] at *; omega)) (by simp only [c_seq, RUNA, RUNB, Nat.reduceAdd, Nat.reduceMod, Nat.reduceDiv, Nat.reduceSub, Nat.reduceMul, Nat.reduceEqDiff, Nat.reduceBEq, Nat.reduceLeDiff, Int.reduceToNat, fillS, wantG, vBox, Value.cells, one, putAt])) (by repeat first | assumption | refine Fr.more ?_ _ | refine Fr.put ?_ _ _)) ?_
  rintro r σ1 ⟨⟨φ, hD1⟩, hS1, hE1, hF1⟩
  have n1 := hE1.next
  simp only [next_more, next_put] at n1 hD1
  obtain ⟨o1, k1, c1, i1, rfl⟩ := hD1.open
  simp only [c_seq, RUNA, RUNB, Nat.reduceAdd, Nat.reduceMod, Nat.reduceDiv, Nat.reduceSub, Nat.reduceMul, Nat.reduceEqDiff, Nat.reduceBEq, Nat.reduceLeDiff, Int.reduceToNat, fillS, wantG, vBox, Value.cells, one, putAt, TYA]
  refine wpc_mono (diagram_spec hc (by omega) 2 (by omega) _ hS1 hF1) ?_
  rintro r σ2 ⟨⟨ψ, hD2⟩, hS2, hE2, hF2⟩
  have n2 := hE2.next
  obtain ⟨o2, k2, c2, i2, rfl⟩ := hD2.open
  simp only [c_seq, RUNA, RUNB, Nat.reduceAdd, Nat.reduceMod, Nat.reduceDiv, Nat.reduceSub, Nat.reduceMul, Nat.reduceEqDiff, Nat.reduceBEq, Nat.reduceLeDiff, Int.reduceToNat, fillS, wantG, vBox, Value.cells, one, putAt, TYA]
  refine wpc_mono (diagram_spec hc (by omega) 2 (by omega) _ hS2 hF2) ?_
  rintro r σ3 ⟨⟨χ, hD3⟩, hS3, hE3, hF3⟩
  have n3 := hE3.next
  obtain ⟨o3, k3, c3, i3, rfl⟩ := hD3.open
  simp only [RUNA, RUNB, Nat.reduceAdd, Nat.reduceMod, Nat.reduceDiv, Nat.reduceSub, Nat.reduceMul, Nat.reduceEqDiff, Nat.reduceBEq, Nat.reduceLeDiff, Int.reduceToNat, fillS, wantG, vBox, Value.cells, one, putAt, TYA]
  refine gen_go (fun S τ => S.at 1 = .int .u16 n ∧ S.at 6 = .pointer (some ⟨σ.next + 13, 0, none⟩) ∧ S.at 7 = .pointer (some ⟨σ.next + 14, 0, none⟩) ∧ S.at 8 = .pointer (some ⟨σ.next + 15, 0, none⟩) ∧ Fr τ ∧
    BX (σ.next + 13) (.slice o1 k1 c1) (.int .i64 i1) φ τ ∧ BX (σ.next + 14) (.slice o2 k2 c2) (.int .i64 i2) ψ τ ∧ BX (σ.next + 15) (.slice o3 k3 c3) (.int .i64 i3) χ τ) ?_ ?_
  · simp only [c_seq, RUNA, RUNB, Nat.reduceAdd, Nat.reduceMod, Nat.reduceDiv, Nat.reduceSub, Nat.reduceMul, Nat.reduceEqDiff, Nat.reduceBEq, Nat.reduceLeDiff, Int.reduceToNat, fillS, wantG, vBox, Value.cells, one, putAt]
    refine ⟨by repeat first | assumption | refine Fr.more ?_ _ | refine Fr.put ?_ _ _, ⟨by simp only [c_seq, RUNA, RUNB, Nat.reduceAdd, Nat.reduceMod, Nat.reduceDiv, Nat.reduceSub, Nat.reduceMul, Nat.reduceEqDiff, Nat.reduceBEq, Nat.reduceLeDiff, Int.reduceToNat, fillS, wantG, vBox, Value.cells, one, putAt], by first | omega | (simp only [next_more, next_put] at *; omega), IsD.hi (IsD.weak (hD1.un ?_) (Nat.zero_le _)) (by first | omega | (simp only [next_more, next_put] at *; omega))⟩, ⟨by simp only [c_seq, RUNA, RUNB, Nat.reduceAdd, Nat.reduceMod, Nat.reduceDiv, Nat.reduceSub, Nat.reduceMul, Nat.reduceEqDiff, Nat.reduceBEq, Nat.reduceLeDiff, Int.reduceToNat, fillS, wantG, vBox, Value.cells, one, putAt], by first | omega | (simp only [next_more, next_put] at *; omega), IsD.hi (IsD.weak (hD2.un ?_) (Nat.zero_le _)) (by first | omega | (simp only [next_more, next_put] at *; omega))⟩, ⟨by simp only [c_seq, RUNA, RUNB, Nat.reduceAdd, Nat.reduceMod, Nat.reduceDiv, Nat.reduceSub, Nat.reduceMul, Nat.reduceEqDiff, Nat.reduceBEq, Nat.reduceLeDiff, Int.reduceToNat, fillS, wantG, vBox, Value.cells, one, putAt], by first | omega | (simp only [next_more, next_put] at *; omega), IsD.hi (IsD.weak (hD3.un ?_) (Nat.zero_le _)) (by first | omega | (simp only [next_more, next_put] at *; omega))⟩⟩
    · repeat first | assumption | exact UN.refl _ _ _ | refine UN.more ?_ _ | refine UN.put ?_ (by omega) _ | refine UN.ex (by assumption) ?_ (by first | omega | (simp only [next_more, next_put]; omega)) | refine UN.exb (by assumption) ?_ (by first | omega | (simp only [next_more, next_put]; omega)) (by omega)
    · repeat first | assumption | exact UN.refl _ _ _ | refine UN.more ?_ _ | refine UN.put ?_ (by omega) _ | refine UN.ex (by assumption) ?_ (by first | omega | (simp only [next_more, next_put]; omega)) | refine UN.exb (by assumption) ?_ (by first | omega | (simp only [next_more, next_put]; omega)) (by omega)
    · repeat first | assumption | exact UN.refl _ _ _ | refine UN.more ?_ _ | refine UN.put ?_ (by omega) _ | refine UN.ex (by assumption) ?_ (by first | omega | (simp only [next_more, next_put]; omega)) | refine UN.exb (by assumption) ?_ (by first | omega | (simp only [next_more, next_put]; omega)) (by omega)
  clear hD1 hD2 hD3 hS1 hS2 hS3 hE1 hE2 hE3 hF1 hF2 hF3
  rintro S τ ⟨s1, s6, s7, s8, hFt, hA, hB, hC⟩
  have hcv' : aconv Try.prog 42 3 (.int .u16 (n : Int)) = some (.int .i64 (n : Int)) := by
    rw [n_conv Try.underlying42 Try.underlying3, wrap64 (by omega) (by omega)]
  refine wpx_seq ?_
  simp only [RUNA, RUNB, Nat.reduceAdd, Nat.reduceMod, Nat.reduceDiv, Nat.reduceSub, Nat.reduceMul, Nat.reduceEqDiff, Nat.reduceBEq, Nat.reduceLeDiff, Int.reduceToNat, fillS, wantG, vBox, Value.cells, one, putAt, TYA, s1, s6, s7, s8, hcv']
  refine wpc_mono (Bits_spec n (by omega) _) ?_
  rintro r σ4 ⟨hT4, hE4⟩
  have n4 := hE4.next
  simp only [next_more] at n4
  obtain ⟨d4, rfl, t4, t4', t4''⟩ := hT4
  have e4 : EX τ σ4 := by repeat first | assumption | exact EXn.refl _ _ | refine EXn.more ?_ _ | refine EXn.put ?_ (by omega) _ | refine EX.trans ?_ (by assumption)
  simp only [RUNA, RUNB, Nat.reduceAdd, Nat.reduceMod, Nat.reduceDiv, Nat.reduceSub, Nat.reduceMul, Nat.reduceEqDiff, Nat.reduceBEq, Nat.reduceLeDiff, Int.reduceToNat, fillS, wantG, vBox, Value.cells, one, putAt, TYA, s1, s6, s7, s8]
  obtain ⟨bs, hbs⟩ : ∃ bs, bs = tab 10 (bits n) := ⟨_, rfl⟩
  rw [← hbs] at t4''
  have hbl : bs.length = 10 := by rw [hbs, tab_len]
  refine gen_go (fun S τ => S.at 1 = .int .u16 n ∧ S.at 6 = .pointer (some ⟨σ.next + 13, 0, none⟩) ∧ S.at 7 = .pointer (some ⟨σ.next + 14, 0, none⟩) ∧ S.at 8 = .pointer (some ⟨σ.next + 15, 0, none⟩) ∧ S.at 9 = .slice (some ⟨d4, 0, none⟩) 10 10 ∧ Fr τ ∧ EX σ4 τ) ?_ ?_
  · simp only [c_seq, RUNA, RUNB, Nat.reduceAdd, Nat.reduceMod, Nat.reduceDiv, Nat.reduceSub, Nat.reduceMul, Nat.reduceEqDiff, Nat.reduceBEq, Nat.reduceLeDiff, Int.reduceToNat, fillS, wantG, vBox, Value.cells, one, putAt, s1, s6, s7, s8]
    refine ⟨e4.fr (by repeat first | assumption | refine Fr.more ?_ _ | refine Fr.put ?_ _ _), ?_⟩
    repeat first | assumption | exact EXn.refl _ _ | refine EXn.more ?_ _ | refine EXn.put ?_ (by omega) _ | refine EX.trans ?_ (by assumption)
  clear s1 s6 s7 s8
  rintro S τ5 ⟨s1, s6, s7, s8, s9, hF5, hE5⟩
  have n5 := hE5.next
  have hA5 := hA.mono (EX.trans e4 hE5)
  have hB5 := hB.mono (EX.trans e4 hE5)
  have hC5 := hC.mono (EX.trans e4 hE5)
  have rd5 := (hE5.row d4 (by omega)).trans t4''
  have hd5 : d4 < τ5.next := by omega
  have sb5 : SB τ5 (.slice (some ⟨d4, 0, none⟩) 10 10) bs := ⟨some ⟨d4, 0, none⟩, 10, by rw [hbl], fun _ => ⟨d4, 0, _, _, rfl, hd5, rd5, by rw [List.drop_zero, List.take_of_length_le (by simp)]⟩⟩
  clear hE5 e4 hE4 hA hB hC n4 t4 t4' t4'' hFt
  refine wpx_seq ?_
  refine d_go (ms := [0, 0, 3, 0, 0, 31, 0, 0, 255, 511, 1023, 2047]) (order := [0, 1, 3, 4, 6, 7, 2, 5, 8, 9, 10, 11]) (by kernel_rfl) (by kernel_rfl) (by kernel_rfl) ?_
  simp only [YRUNA, YRUNB, Nat.reduceShiftRight, bit, RUNA, RUNB, Nat.reduceAdd, Nat.reduceMod, Nat.reduceDiv, Nat.reduceSub, Nat.reduceMul, Nat.reduceEqDiff, Nat.reduceBEq, Nat.reduceLeDiff, Int.reduceToNat, fillS, wantG, vBox, Value.cells, one, putAt, TYA, s1, s6, s7, s8, s9, hA5.row, hB5.row, hC5.row]
  refine wpc_mono (Evaluate_spec (hA5.mono ?_).is (by first | omega | (simp only [next_more, next_put] at *; omega)) (sb5.mono ?_) (by repeat first | assumption | refine Fr.more ?_ _ | refine Fr.put ?_ _ _)) ?_
  · repeat first | assumption | exact EXn.refl _ _ | refine EXn.more ?_ _ | refine EXn.put ?_ (by omega) _ | refine EX.trans ?_ (by assumption)
  · repeat first | assumption | exact EXn.refl _ _ | refine EXn.more ?_ _ | refine EXn.put ?_ (by omega) _ | refine EX.trans ?_ (by assumption)
  rintro r σ6 ⟨rfl, hE6⟩
  have e6 : EX τ5 σ6 := by repeat first | assumption | exact EXn.refl _ _ | refine EXn.more ?_ _ | refine EXn.put ?_ (by omega) _ | refine EX.trans ?_ (by assumption)
  have hA6 := hA5.mono e6
  have hB6 := hB5.mono e6
  have hC6 := hC5.mono e6
  simp only [YRUNA, YRUNB, Nat.reduceShiftRight, bit, RUNA, RUNB, Nat.reduceAdd, Nat.reduceMod, Nat.reduceDiv, Nat.reduceSub, Nat.reduceMul, Nat.reduceEqDiff, Nat.reduceBEq, Nat.reduceLeDiff, Int.reduceToNat, fillS, wantG, vBox, Value.cells, one, putAt, TYA, s1, s6, s7, s8, s9, hA6.row, hB6.row, hC6.row]
  refine wpc_mono (Evaluate_spec hB6.is (Nat.le_refl _) (sb5.mono e6) (e6.fr hF5)) ?_
  rintro r σ7 ⟨rfl, hE7⟩
  have e7 : EX τ5 σ7 := EX.trans e6 hE7
  have hA7 := hA5.mono e7
  have hB7 := hB5.mono e7
  have hC7 := hC5.mono e7
  simp only [YRUNA, YRUNB, Nat.reduceShiftRight, bit, RUNA, RUNB, Nat.reduceAdd, Nat.reduceMod, Nat.reduceDiv, Nat.reduceSub, Nat.reduceMul, Nat.reduceEqDiff, Nat.reduceBEq, Nat.reduceLeDiff, Int.reduceToNat, fillS, wantG, vBox, Value.cells, one, putAt, TYA, s1, s6, s7, s8, s9, hA7.row, hB7.row, hC7.row]
  refine wpc_mono (Evaluate_spec hC7.is (Nat.le_refl _) (sb5.mono e7) (e7.fr hF5)) ?_
  rintro r σ8 ⟨rfl, hE8⟩
  have e8 : EX τ5 σ8 := EX.trans e7 hE8
  have hA8 := hA5.mono e8
  have hB8 := hB5.mono e8
  have hC8 := hC5.mono e8
  simp only [YRUNA, YRUNB, Nat.reduceShiftRight, bit, RUNA, RUNB, Nat.reduceAdd, Nat.reduceMod, Nat.reduceDiv, Nat.reduceSub, Nat.reduceMul, Nat.reduceEqDiff, Nat.reduceBEq, Nat.reduceLeDiff, Int.reduceToNat, fillS, wantG, vBox, Value.cells, one, putAt, TYA, s1, s6, s7, s8, s9, hA8.row, hB8.row, hC8.row]
  obtain ⟨x, hx⟩ : ∃ x, φ (bt bs) = x := ⟨_, rfl⟩
  obtain ⟨y, hy⟩ : ∃ y, ψ (bt bs) = y := ⟨_, rfl⟩
  obtain ⟨z, hz⟩ : ∃ z, χ (bt bs) = z := ⟨_, rfl⟩
  rw [hx, hy, hz]
  refine wpx_seq ?_
  simp only [RUNA, RUNB, Nat.reduceAdd, Nat.reduceMod, Nat.reduceDiv, Nat.reduceSub, Nat.reduceMul, Nat.reduceEqDiff, Nat.reduceBEq, Nat.reduceLeDiff, Int.reduceToNat, fillS, wantG, vBox, Value.cells, one, putAt, TYA]
  refine seq_cut (fun S τ => S.at 1 = .int .u16 n ∧ S.at 6 = .pointer (some ⟨σ.next + 13, 0, none⟩) ∧ S.at 7 = .pointer (some ⟨σ.next + 14, 0, none⟩) ∧ S.at 8 = .pointer (some ⟨σ.next + 15, 0, none⟩) ∧ S.at 9 = .slice (some ⟨d4, 0, none⟩) 10 10 ∧ S.at 10 = .bool x ∧ S.at 11 = .bool y ∧ S.at 12 = .bool z ∧ S.at 13 = .bool (if x = true then y else z) ∧ EX τ5 τ) ?_ ?_
  · cases x with
    | true =>
      simp only [c_seq, RUNA, RUNB, Nat.reduceAdd, Nat.reduceMod, Nat.reduceDiv, Nat.reduceSub, Nat.reduceMul, Nat.reduceEqDiff, Nat.reduceBEq, Nat.reduceLeDiff, Int.reduceToNat, fillS, wantG, vBox, Value.cells, one, putAt, TYA, s1, s6, s7, s8, s9]
      repeat first | assumption | exact EXn.refl _ _ | refine EXn.more ?_ _ | refine EXn.put ?_ (by omega) _ | refine EX.trans ?_ (by assumption)
    | false =>
      simp only [c_seq, RUNA, RUNB, Nat.reduceAdd, Nat.reduceMod, Nat.reduceDiv, Nat.reduceSub, Nat.reduceMul, Nat.reduceEqDiff, Nat.reduceBEq, Nat.reduceLeDiff, Int.reduceToNat, fillS, wantG, vBox, Value.cells, one, putAt, TYA, s1, s6, s7, s8, s9, Bool.false_eq_true]
      repeat first | assumption | exact EXn.refl _ _ | refine EXn.more ?_ _ | refine EXn.put ?_ (by omega) _ | refine EX.trans ?_ (by assumption)
  clear s1 s6 s7 s8 s9 hA8 hB8 hC8 hA7 hB7 hC7 hA6 hB6 hC6 e8 e7 e6 hE6 hE7 hE8
  rintro S τ6 ⟨s1, s6, s7, s8, s9, s10, s11, s12, s13, hE6⟩
  refine wpx_seq ?_
  have hsh := n_shr (P := Try.prog) (t := 42) (x := .tmp 45) (y := .const (.int .u64 10)) (k := .u16) (k' := .u64) (a := (n : Int)) (b := 10) (by decide)
  have hfd : Int.fdiv (n : Int) (2 ^ (min (10 : Int).toNat IntKind.u16.bits)) = ((n / 1024 : Nat) : Int) := by
    rw [show (2 : Int) ^ (min (10 : Int).toNat IntKind.u16.bits) = ((1024 : Nat) : Int) from rfl, Int.fdiv_eq_ediv_of_nonneg _ (by omega)]; rfl
  rw [hfd] at hsh
  have hcv2 : aconv Try.prog 42 3 (.int .u16 ((n / 1024 : Nat) : Int)) = some (.int .i64 ((n / 1024 : Nat) : Int)) := by
    rw [n_conv Try.underlying42 Try.underlying3, wrap64 (by omega) (by omega)]
  have hrm : Int.tmod ((n / 1024 : Nat) : Int) 11 = ((n / 1024 % 11 : Nat) : Int) := by rw [Int.natCast_emod]; rfl
  have h11 : (11 : Int) ≠ 0 := by decide
  have rd6 := (hE6.row d4 hd5).trans rd5
  have hd6 := Nat.lt_of_lt_of_le hd5 hE6.next
  obtain ⟨kk, hkk⟩ : ∃ kk, kk = n / 1024 % 11 := ⟨_, rfl⟩
  have hk10 : kk ≤ 10 := by omega
  rw [← hkk] at hrm
  have sbs : ∀ k, ∃ sv, aslice Try.prog (τ6.more k) 43 (.slice (some ⟨d4, 0, none⟩) 10 10) none (some (.int .i64 kk)) none = some sv ∧ SB τ6 sv (bs.take kk) := fun k => by
    obtain ⟨sv, h1, h2⟩ := slice_to (N := 10) (k := kk) hd6 rd6 rfl hbl hk10 (by omega)
    exact ⟨sv, h1, h2⟩
  obtain ⟨sv, hsv, sbv⟩ := sbs 7
  simp only [RUNA, RUNB, Nat.reduceAdd, Nat.reduceMod, Nat.reduceDiv, Nat.reduceSub, Nat.reduceMul, Nat.reduceEqDiff, Nat.reduceBEq, Nat.reduceLeDiff, Int.reduceToNat, fillS, wantG, vBox, Value.cells, one, putAt, TYA, s1, s6, s7, s8, s9, hsh, hcv2, n_rem h11, hrm, hsv]
  refine gen_go (fun S τ => S.at 6 = .pointer (some ⟨σ.next + 13, 0, none⟩) ∧ S.at 7 = .pointer (some ⟨σ.next + 14, 0, none⟩) ∧ S.at 8 = .pointer (some ⟨σ.next + 15, 0, none⟩) ∧ S.at 9 = .slice (some ⟨d4, 0, none⟩) 10 10 ∧ S.at 10 = .bool x ∧ S.at 11 = .bool y ∧ S.at 12 = .bool z ∧ S.at 13 = .bool (if x = true then y else z) ∧ S.at 14 = sv ∧ EX τ6 τ) ?_ ?_
  · simp only [c_seq, RUNA, RUNB, Nat.reduceAdd, Nat.reduceMod, Nat.reduceDiv, Nat.reduceSub, Nat.reduceMul, Nat.reduceEqDiff, Nat.reduceBEq, Nat.reduceLeDiff, Int.reduceToNat, fillS, wantG, vBox, Value.cells, one, putAt, s1, s6, s7, s8, s9, s10, s11, s12, s13]
    repeat first | assumption | exact EXn.refl _ _ | refine EXn.more ?_ _ | refine EXn.put ?_ (by omega) _ | refine EX.trans ?_ (by assumption)
  clear s1 s6 s7 s8 s9 s10 s11 s12 s13 hsv sbs
  rintro S τ7 ⟨z6, z7, z8, z9, z10, z11, z12, z13, z14, hE7⟩
  have e57 : EX τ5 τ7 := EX.trans hE6 hE7
  have hA := hA5.mono e57
  have hB := hB5.mono e57
  have hC := hC5.mono e57
  have sb := sb5.mono e57
  have sv7 := sbv.mono hE7
  have hF7 := e57.fr hF5
  have n7 := e57.next
  clear hE7 e57 hA5 hB5 hC5 sb5 sbv hF5 rd5 rd6 hd5 hd6 hE6
  have bb : ∀ b : Bool, (b == b) = true := fun b => by simp
  obtain ⟨N, hN⟩ : ∃ N, τ7.next = N := ⟨_, rfl⟩
  have hA0 := hA.lt
  have hB0 := hB.lt
  have hC0 := hC.lt
  have q13 : ∀ k, ¬ σ.next + 13 = τ7.next + k := fun k => by omega
  have q14 : ∀ k, ¬ σ.next + 14 = τ7.next + k := fun k => by omega
  have q15 : ∀ k, ¬ σ.next + 15 = τ7.next + k := fun k => by omega
  refine wpx_seq ?_
  simp only [List.append_eq, List.cons_append, List.nil_append]
  refine d_go (ms := [0, 0, 0, 6, 15, 31, 63, 63, 63, 511, 63, 2047, 63, 8191, 16383, 32767, 65535, 131071, 65535, 524287, 65535, 1114111, 4194303, 8388607, 16777215, 33554431, 33554431, 33554431, 268435455, 536870911, 33554431, 2147483647, 33554431, 8589934591, 17179869183, 34359738367, 68719476735, 137438953471, 274877906943, 549755813887, 1099511627775, 2199023255551, 4398046511103, 4398046511103, 4398046511103, 35184372088831, 70368744177663, 4398046511103, 281474976710655, 4398046511103, 1125899906842623, 2251799813685247, 4503599627370495, 9007199254740991, 18014398509481983, 36028797018963967, 72057594037927935, 144115188075855871, 288230376151711743, 576460752303423487, 576460752303423487, 2305843009213693951, 576460752303423487, 9223372036854775807, 576460752303423487, 576460752303423487, 55916692973432078335, 147573952589676412927, 295147905179352825855, 590295810358705651711, 1180591620717411303423, 1180591620717411303423, 4722366482869645213695, 1180591620717411303423, 1180591620717411303423, 37778931862957161709567, 75557863725914323419135, 151115727451828646838271, 302231454903657293676543, 604462909807314587353087, 604462909807314587353087, 2417851639229258349412351, 4835703278458516698824703, 9671406556917033397649407, 19342813113834066795298815, 19342813113834066795298815, 77371252455336267181195263, 154742504910672534362390527, 309485009821345068724781055, 618970019642690137449562111]) (order := [0, 1, 2, 3, 4, 5, 6, 7, 8, 10, 12, 9, 11, 13, 14, 15, 16, 18, 20, 21, 17, 19, 22, 23, 24, 25, 26, 27, 28, 30, 32, 29, 31, 33, 34, 35, 36, 37, 38, 39, 40, 41, 42, 43, 44, 45, 47, 49, 46, 48, 50, 51, 52, 53, 54, 55, 56, 57, 58, 59, 60, 62, 64, 65, 66, 61, 63, 67, 68, 69, 70, 71, 73, 74, 72, 75, 76, 77, 78, 80, 79, 81, 82, 83, 85, 84, 86, 87, 88, 89]) (by kernel_rfl) (by kernel_rfl) (by kernel_rfl) ?_
  simp only [YRUNA, YRUNB, Nat.reduceShiftRight, bit, c_seq, RUNA, RUNB, Nat.reduceAdd, Nat.reduceMod, Nat.reduceDiv, Nat.reduceSub, Nat.reduceMul, Nat.reduceEqDiff, Nat.reduceBEq, Nat.reduceLeDiff, Int.reduceToNat, fillS, wantG, vBox, Value.cells, one, putAt, TYA, z6, z7, z8, z9, z10, z11, z12, z13, z14, bb, n_eqb Try.underlying4, n_neb Try.underlying4, dsel_mv, p_g1, p_g2, hA.row, hB.row, hC.row]
  refine wpc_dgen (fun S => S.at 6 = .pointer (some ⟨σ.next + 13, 0, none⟩) ∧ S.at 7 = .pointer (some ⟨σ.next + 14, 0, none⟩) ∧ S.at 8 = .pointer (some ⟨σ.next + 15, 0, none⟩) ∧ S.at 9 = .slice (some ⟨d4, 0, none⟩) 10 10 ∧ S.at 10 = .bool x ∧ S.at 11 = .bool y ∧ S.at 12 = .bool z ∧ S.at 13 = .bool (if x = true then y else z) ∧ S.at 14 = sv ∧ S.at 50 = .bool x ∧ S.at 51 = .agg #[.slice o1 k1 c1, .int .i64 i1] ∧ S.at 52 = .slice (some ⟨d4, 0, none⟩) 10 10) ?_ ?_
  · simp only [c_seq, RUNA, RUNB, Nat.reduceAdd, Nat.reduceMod, Nat.reduceDiv, Nat.reduceSub, Nat.reduceMul, Nat.reduceEqDiff, Nat.reduceBEq, Nat.reduceLeDiff, Int.reduceToNat, fillS, wantG, vBox, Value.cells, one, putAt, z6, z7, z8, z9, z10, z11, z12, z13, z14]
  clear z6 z7 z8 z9 z10 z11 z12 z13 z14
  rintro S ⟨z6, z7, z8, z9, z10, z11, z12, z13, z14, z50, z51, z52⟩
  refine wpc_mono (refEvaluate_is (hA.mono ?_).is (sb.mono ?_)) ?_
  · repeat first | assumption | exact EXn.refl _ _ | refine EXn.more ?_ _ | refine EXn.put ?_ (by omega) _ | refine EX.trans ?_ (by assumption)
  · repeat first | assumption | exact EXn.refl _ _ | refine EXn.more ?_ _ | refine EXn.put ?_ (by omega) _ | refine EX.trans ?_ (by assumption)
  rintro r σ1' ⟨rfl, hE1⟩
  have e1 : EX τ7 σ1' := by repeat first | assumption | exact EXn.refl _ _ | refine EXn.more ?_ _ | refine EXn.put ?_ (by omega) _ | refine EX.trans ?_ (by assumption)
  have g1' : τ7.next + 90 ≤ σ1'.next := hE1.next
  rw [hx]
  simp only [YRUNA, YRUNB, Nat.reduceShiftRight, bit, c_seq, RUNA, RUNB, Nat.reduceAdd, Nat.reduceMod, Nat.reduceDiv, Nat.reduceSub, Nat.reduceMul, Nat.reduceEqDiff, Nat.reduceBEq, Nat.reduceLeDiff, Int.reduceToNat, fillS, wantG, vBox, Value.cells, one, putAt, TYA, z6, z7, z8, z9, z10, z11, z12, z13, z14, z50, z51, z52, bb, n_eqb Try.underlying4, n_neb Try.underlying4, dsel_mv, p_g1, p_g2, (hA.mono e1).row, (hB.mono e1).row, (hC.mono e1).row]
  refine wpc_dgen (fun S => S.at 6 = .pointer (some ⟨σ.next + 13, 0, none⟩) ∧ S.at 7 = .pointer (some ⟨σ.next + 14, 0, none⟩) ∧ S.at 8 = .pointer (some ⟨σ.next + 15, 0, none⟩) ∧ S.at 9 = .slice (some ⟨d4, 0, none⟩) 10 10 ∧ S.at 10 = .bool x ∧ S.at 11 = .bool y ∧ S.at 12 = .bool z ∧ S.at 14 = sv ∧ S.at 55 = .bool true ∧ S.at 56 = .agg #[.slice o1 k1 c1, .int .i64 i1] ∧ S.at 57 = .agg #[.slice o2 k2 c2, .int .i64 i2] ∧ S.at 58 = .agg #[.slice o3 k3 c3, .int .i64 i3] ∧ S.at 60 = .slice (some ⟨d4, 0, none⟩) 10 10 ∧ S.at 62 = .bool (if x = true then y else z)) ?_ ?_
  · simp only [c_seq, RUNA, RUNB, Nat.reduceAdd, Nat.reduceMod, Nat.reduceDiv, Nat.reduceSub, Nat.reduceMul, Nat.reduceEqDiff, Nat.reduceBEq, Nat.reduceLeDiff, Int.reduceToNat, fillS, wantG, vBox, Value.cells, one, putAt, z6, z7, z8, z9, z10, z11, z12, z13, z14, z50, z51, z52]
  clear z6 z7 z8 z9 z10 z11 z12 z13 z14 z50 z51 z52
  rintro S ⟨z6, z7, z8, z9, z10, z11, z12, z14, z55, z56, z57, z58, z60, z62⟩
  refine wpc_mono (Ite_spec (hA.mono e1).is (hB.mono e1).is (hC.mono e1).is (e1.fr hF7)) ?_
  rintro r σ2' ⟨hD2, hE2⟩
  obtain ⟨p2, q2, u2, w2, rfl⟩ := hD2.open
  have e2 : EX τ7 σ2' := EX.trans e1 hE2
  have g2' : τ7.next + 90 ≤ σ2'.next := Nat.le_trans g1' hE2.next
  simp only [YRUNA, YRUNB, Nat.reduceShiftRight, bit, c_seq, RUNA, RUNB, Nat.reduceAdd, Nat.reduceMod, Nat.reduceDiv, Nat.reduceSub, Nat.reduceMul, Nat.reduceEqDiff, Nat.reduceBEq, Nat.reduceLeDiff, Int.reduceToNat, fillS, wantG, vBox, Value.cells, one, putAt, TYA, z6, z7, z8, z9, z10, z11, z12, z14, z55, z56, z57, z58, z60, z62, bb, n_eqb Try.underlying4, n_neb Try.underlying4, dsel_mv, p_g1, p_g2, (hA.mono e2).row, (hB.mono e2).row, (hC.mono e2).row]
  refine wpc_dgen (fun S => S.at 6 = .pointer (some ⟨σ.next + 13, 0, none⟩) ∧ S.at 7 = .pointer (some ⟨σ.next + 14, 0, none⟩) ∧ S.at 8 = .pointer (some ⟨σ.next + 15, 0, none⟩) ∧ S.at 9 = .slice (some ⟨d4, 0, none⟩) 10 10 ∧ S.at 10 = .bool x ∧ S.at 11 = .bool y ∧ S.at 12 = .bool z ∧ S.at 14 = sv ∧ S.at 55 = .bool true ∧ S.at 59 = .agg #[.slice p2 q2 u2, .int .i64 w2] ∧ S.at 60 = .slice (some ⟨d4, 0, none⟩) 10 10 ∧ S.at 62 = .bool (if x = true then y else z)) ?_ ?_
  · simp only [c_seq, RUNA, RUNB, Nat.reduceAdd, Nat.reduceMod, Nat.reduceDiv, Nat.reduceSub, Nat.reduceMul, Nat.reduceEqDiff, Nat.reduceBEq, Nat.reduceLeDiff, Int.reduceToNat, fillS, wantG, vBox, Value.cells, one, putAt, z6, z7, z8, z9, z10, z11, z12, z14, z55, z56, z57, z58, z60, z62]
  clear z6 z7 z8 z9 z10 z11 z12 z14 z55 z56 z57 z58 z60 z62
  rintro S ⟨z6, z7, z8, z9, z10, z11, z12, z14, z55, z59, z60, z62⟩
  refine wpc_mono (Evaluate_spec hD2 (Nat.le_refl _) (sb.mono e2) (e2.fr hF7)) ?_
  rintro r σ3' ⟨rfl, hE3⟩
  have e3 : EX τ7 σ3' := EX.trans e2 hE3
  have g3' : τ7.next + 90 ≤ σ3'.next := Nat.le_trans g2' hE3.next
  rw [hx, hy, hz]
  simp only [YRUNA, YRUNB, Nat.reduceShiftRight, bit, c_seq, RUNA, RUNB, Nat.reduceAdd, Nat.reduceMod, Nat.reduceDiv, Nat.reduceSub, Nat.reduceMul, Nat.reduceEqDiff, Nat.reduceBEq, Nat.reduceLeDiff, Int.reduceToNat, fillS, wantG, vBox, Value.cells, one, putAt, TYA, z6, z7, z8, z9, z10, z11, z12, z14, z55, z59, z60, z62, bb, n_eqb Try.underlying4, n_neb Try.underlying4, dsel_mv, p_g1, p_g2, (hA.mono e3).row, (hB.mono e3).row, (hC.mono e3).row]
  refine wpc_dgen (fun S => S.at 6 = .pointer (some ⟨σ.next + 13, 0, none⟩) ∧ S.at 7 = .pointer (some ⟨σ.next + 14, 0, none⟩) ∧ S.at 8 = .pointer (some ⟨σ.next + 15, 0, none⟩) ∧ S.at 9 = .slice (some ⟨d4, 0, none⟩) 10 10 ∧ S.at 10 = .bool x ∧ S.at 11 = .bool y ∧ S.at 12 = .bool z ∧ S.at 14 = sv ∧ S.at 65 = .bool true ∧ S.at 66 = .agg #[.slice o1 k1 c1, .int .i64 i1] ∧ S.at 68 = .slice (some ⟨d4, 0, none⟩) 10 10 ∧ S.at 71 = .bool (!x)) ?_ ?_
  · simp only [c_seq, RUNA, RUNB, Nat.reduceAdd, Nat.reduceMod, Nat.reduceDiv, Nat.reduceSub, Nat.reduceMul, Nat.reduceEqDiff, Nat.reduceBEq, Nat.reduceLeDiff, Int.reduceToNat, fillS, wantG, vBox, Value.cells, one, putAt, z6, z7, z8, z9, z10, z11, z12, z14, z55, z59, z60, z62]
  clear z6 z7 z8 z9 z10 z11 z12 z14 z55 z59 z60 z62
  rintro S ⟨z6, z7, z8, z9, z10, z11, z12, z14, z65, z66, z68, z71⟩
  refine wpc_mono (Not_spec (hA.mono e3).is (e3.fr hF7)) ?_
  rintro r σ4' ⟨hD4, hE4⟩
  obtain ⟨p4, q4, u4, w4, rfl⟩ := hD4.open
  have e4 : EX τ7 σ4' := EX.trans e3 hE4
  have g4' : τ7.next + 90 ≤ σ4'.next := Nat.le_trans g3' hE4.next
  simp only [YRUNA, YRUNB, Nat.reduceShiftRight, bit, c_seq, RUNA, RUNB, Nat.reduceAdd, Nat.reduceMod, Nat.reduceDiv, Nat.reduceSub, Nat.reduceMul, Nat.reduceEqDiff, Nat.reduceBEq, Nat.reduceLeDiff, Int.reduceToNat, fillS, wantG, vBox, Value.cells, one, putAt, TYA, z6, z7, z8, z9, z10, z11, z12, z14, z65, z66, z68, z71, bb, n_eqb Try.underlying4, n_neb Try.underlying4, dsel_mv, p_g1, p_g2, (hA.mono e4).row, (hB.mono e4).row, (hC.mono e4).row]
  refine wpc_dgen (fun S => S.at 6 = .pointer (some ⟨σ.next + 13, 0, none⟩) ∧ S.at 7 = .pointer (some ⟨σ.next + 14, 0, none⟩) ∧ S.at 8 = .pointer (some ⟨σ.next + 15, 0, none⟩) ∧ S.at 9 = .slice (some ⟨d4, 0, none⟩) 10 10 ∧ S.at 10 = .bool x ∧ S.at 11 = .bool y ∧ S.at 12 = .bool z ∧ S.at 14 = sv ∧ S.at 65 = .bool true ∧ S.at 67 = .agg #[.slice p4 q4 u4, .int .i64 w4] ∧ S.at 68 = .slice (some ⟨d4, 0, none⟩) 10 10 ∧ S.at 71 = .bool (!x)) ?_ ?_
  · simp only [c_seq, RUNA, RUNB, Nat.reduceAdd, Nat.reduceMod, Nat.reduceDiv, Nat.reduceSub, Nat.reduceMul, Nat.reduceEqDiff, Nat.reduceBEq, Nat.reduceLeDiff, Int.reduceToNat, fillS, wantG, vBox, Value.cells, one, putAt, z6, z7, z8, z9, z10, z11, z12, z14, z65, z66, z68, z71]
  clear z6 z7 z8 z9 z10 z11 z12 z14 z65 z66 z68 z71
  rintro S ⟨z6, z7, z8, z9, z10, z11, z12, z14, z65, z67, z68, z71⟩
  refine wpc_mono (Evaluate_spec hD4 (Nat.le_refl _) (sb.mono e4) (e4.fr hF7)) ?_
  rintro r σ5' ⟨rfl, hE5⟩
  have e5 : EX τ7 σ5' := EX.trans e4 hE5
  have g5' : τ7.next + 90 ≤ σ5'.next := Nat.le_trans g4' hE5.next
  rw [hx]
  simp only [YRUNA, YRUNB, Nat.reduceShiftRight, bit, c_seq, RUNA, RUNB, Nat.reduceAdd, Nat.reduceMod, Nat.reduceDiv, Nat.reduceSub, Nat.reduceMul, Nat.reduceEqDiff, Nat.reduceBEq, Nat.reduceLeDiff, Int.reduceToNat, fillS, wantG, vBox, Value.cells, one, putAt, TYA, z6, z7, z8, z9, z10, z11, z12, z14, z65, z67, z68, z71, bb, n_eqb Try.underlying4, n_neb Try.underlying4, dsel_mv, p_g1, p_g2, (hA.mono e5).row, (hB.mono e5).row, (hC.mono e5).row, bs68_3, q13, q14, q15]
  refine wpc_dgen (fun S => S.at 6 = .pointer (some ⟨σ.next + 13, 0, none⟩) ∧ S.at 7 = .pointer (some ⟨σ.next + 14, 0, none⟩) ∧ S.at 8 = .pointer (some ⟨σ.next + 15, 0, none⟩) ∧ S.at 9 = .slice (some ⟨d4, 0, none⟩) 10 10 ∧ S.at 10 = .bool x ∧ S.at 11 = .bool y ∧ S.at 12 = .bool z ∧ S.at 14 = sv ∧ S.at 74 = .bool true ∧ S.at 78 = .slice (some ⟨τ7.next + 28, 0, none⟩) 3 3 ∧ S.at 80 = .slice (some ⟨d4, 0, none⟩) 10 10 ∧ S.at 82 = .bool x) ?_ ?_
  · simp only [c_seq, RUNA, RUNB, Nat.reduceAdd, Nat.reduceMod, Nat.reduceDiv, Nat.reduceSub, Nat.reduceMul, Nat.reduceEqDiff, Nat.reduceBEq, Nat.reduceLeDiff, Int.reduceToNat, fillS, wantG, vBox, Value.cells, one, putAt, z6, z7, z8, z9, z10, z11, z12, z14, z65, z67, z68, z71]
  clear z6 z7 z8 z9 z10 z11 z12 z14 z65 z67 z68 z71
  rintro S ⟨z6, z7, z8, z9, z10, z11, z12, z14, z74, z78, z80, z82⟩
  have eq6 : ∀ ob, EX τ7 (σ5'.put (τ7.next + 28) ob) := fun ob => EXn.put e5 (by omega) ob
  refine wpc_mono (And_spec (φs := [φ, ψ, χ]) (DL3 (id := τ7.next + 28) (m := rowMeta 2) ?_ (by simp only [c_seq, RUNA, RUNB, Nat.reduceAdd, Nat.reduceMod, Nat.reduceDiv, Nat.reduceSub, Nat.reduceMul, Nat.reduceEqDiff, Nat.reduceBEq, Nat.reduceLeDiff, Int.reduceToNat, fillS, wantG, vBox, Value.cells, one, putAt]) (hA.mono (eq6 _)).is (hB.mono (eq6 _)).is (hC.mono (eq6 _)).is) (by simp) ((eq6 _).fr hF7)) ?_
  · rw [next_put]; omega
  rintro r σ6' ⟨hD6, hE6⟩
  obtain ⟨p6, q6, u6, w6, rfl⟩ := hD6.open
  have e6 : EX τ7 σ6' := EX.trans (eq6 _) hE6
  have g6' : τ7.next + 90 ≤ σ6'.next := Nat.le_trans g5' hE6.next
  simp only [YRUNA, YRUNB, Nat.reduceShiftRight, bit, c_seq, RUNA, RUNB, Nat.reduceAdd, Nat.reduceMod, Nat.reduceDiv, Nat.reduceSub, Nat.reduceMul, Nat.reduceEqDiff, Nat.reduceBEq, Nat.reduceLeDiff, Int.reduceToNat, fillS, wantG, vBox, Value.cells, one, putAt, TYA, z6, z7, z8, z9, z10, z11, z12, z14, z74, z78, z80, z82, bb, n_eqb Try.underlying4, n_neb Try.underlying4, dsel_mv, p_g1, p_g2, (hA.mono e6).row, (hB.mono e6).row, (hC.mono e6).row]
  refine wpc_dgen (fun S => S.at 6 = .pointer (some ⟨σ.next + 13, 0, none⟩) ∧ S.at 7 = .pointer (some ⟨σ.next + 14, 0, none⟩) ∧ S.at 8 = .pointer (some ⟨σ.next + 15, 0, none⟩) ∧ S.at 9 = .slice (some ⟨d4, 0, none⟩) 10 10 ∧ S.at 10 = .bool x ∧ S.at 11 = .bool y ∧ S.at 12 = .bool z ∧ S.at 14 = sv ∧ S.at 74 = .bool true ∧ S.at 79 = .agg #[.slice p6 q6 u6, .int .i64 w6] ∧ S.at 80 = .slice (some ⟨d4, 0, none⟩) 10 10 ∧ S.at 82 = .bool x) ?_ ?_
  · simp only [c_seq, RUNA, RUNB, Nat.reduceAdd, Nat.reduceMod, Nat.reduceDiv, Nat.reduceSub, Nat.reduceMul, Nat.reduceEqDiff, Nat.reduceBEq, Nat.reduceLeDiff, Int.reduceToNat, fillS, wantG, vBox, Value.cells, one, putAt, z6, z7, z8, z9, z10, z11, z12, z14, z74, z78, z80, z82]
  clear z6 z7 z8 z9 z10 z11 z12 z14 z74 z78 z80 z82
  rintro S ⟨z6, z7, z8, z9, z10, z11, z12, z14, z74, z79, z80, z82⟩
  refine wpc_mono (Evaluate_spec hD6 (Nat.le_refl _) (sb.mono e6) (e6.fr hF7)) ?_
  rintro r σ7' ⟨rfl, hE7⟩
  have e7 : EX τ7 σ7' := EX.trans e6 hE7
  have g7' : τ7.next + 90 ≤ σ7'.next := Nat.le_trans g6' hE7.next
  rw [show allOf [φ, ψ, χ] [φ, ψ, χ].length (bt bs) = ((x && y) && z) from by simp [allOf, hx, hy, hz, Bool.and_assoc]]
  simp only [YRUNA, YRUNB, Nat.reduceShiftRight, bit, c_seq, RUNA, RUNB, Nat.reduceAdd, Nat.reduceMod, Nat.reduceDiv, Nat.reduceSub, Nat.reduceMul, Nat.reduceEqDiff, Nat.reduceBEq, Nat.reduceLeDiff, Int.reduceToNat, fillS, wantG, vBox, Value.cells, one, putAt, TYA, z6, z7, z8, z9, z10, z11, z12, z14, z74, z79, z80, z82, bb, n_eqb Try.underlying4, n_neb Try.underlying4, dsel_mv, p_g1, p_g2, (hA.mono e7).row, (hB.mono e7).row, (hC.mono e7).row, bs68_3, q13, q14, q15]
  refine wpc_dgen (fun S => S.at 6 = .pointer (some ⟨σ.next + 13, 0, none⟩) ∧ S.at 7 = .pointer (some ⟨σ.next + 14, 0, none⟩) ∧ S.at 9 = .slice (some ⟨d4, 0, none⟩) 10 10 ∧ S.at 10 = .bool x ∧ S.at 11 = .bool y ∧ S.at 12 = .bool z ∧ S.at 14 = sv ∧ S.at 91 = .bool true ∧ S.at 95 = .slice (some ⟨τ7.next + 45, 0, none⟩) 3 3 ∧ S.at 97 = .slice (some ⟨d4, 0, none⟩) 10 10 ∧ S.at 99 = .bool x) ?_ ?_
  · simp only [c_seq, RUNA, RUNB, Nat.reduceAdd, Nat.reduceMod, Nat.reduceDiv, Nat.reduceSub, Nat.reduceMul, Nat.reduceEqDiff, Nat.reduceBEq, Nat.reduceLeDiff, Int.reduceToNat, fillS, wantG, vBox, Value.cells, one, putAt, z6, z7, z8, z9, z10, z11, z12, z14, z74, z79, z80, z82]
  clear z6 z7 z8 z9 z10 z11 z12 z14 z74 z79 z80 z82
  rintro S ⟨z6, z7, z9, z10, z11, z12, z14, z91, z95, z97, z99⟩
  have eq8 : ∀ ob, EX τ7 (σ7'.put (τ7.next + 45) ob) := fun ob => EXn.put e7 (by omega) ob
  refine wpc_mono (Or_spec (φs := [φ, ψ, χ]) (DL3 (id := τ7.next + 45) (m := rowMeta 2) ?_ (by simp only [c_seq, RUNA, RUNB, Nat.reduceAdd, Nat.reduceMod, Nat.reduceDiv, Nat.reduceSub, Nat.reduceMul, Nat.reduceEqDiff, Nat.reduceBEq, Nat.reduceLeDiff, Int.reduceToNat, fillS, wantG, vBox, Value.cells, one, putAt]) (hA.mono (eq8 _)).is (hB.mono (eq8 _)).is (hC.mono (eq8 _)).is) (by simp) ((eq8 _).fr hF7)) ?_
  · rw [next_put]; omega
  rintro r σ8' ⟨hD8, hE8⟩
  obtain ⟨p8, q8, u8, w8, rfl⟩ := hD8.open
  have e8 : EX τ7 σ8' := EX.trans (eq8 _) hE8
  have g8' : τ7.next + 90 ≤ σ8'.next := Nat.le_trans g7' hE8.next
  simp only [YRUNA, YRUNB, Nat.reduceShiftRight, bit, c_seq, RUNA, RUNB, Nat.reduceAdd, Nat.reduceMod, Nat.reduceDiv, Nat.reduceSub, Nat.reduceMul, Nat.reduceEqDiff, Nat.reduceBEq, Nat.reduceLeDiff, Int.reduceToNat, fillS, wantG, vBox, Value.cells, one, putAt, TYA, z6, z7, z9, z10, z11, z12, z14, z91, z95, z97, z99, bb, n_eqb Try.underlying4, n_neb Try.underlying4, dsel_mv, p_g1, p_g2, (hA.mono e8).row, (hB.mono e8).row, (hC.mono e8).row]
  refine wpc_dgen (fun S => S.at 6 = .pointer (some ⟨σ.next + 13, 0, none⟩) ∧ S.at 7 = .pointer (some ⟨σ.next + 14, 0, none⟩) ∧ S.at 9 = .slice (some ⟨d4, 0, none⟩) 10 10 ∧ S.at 10 = .bool x ∧ S.at 11 = .bool y ∧ S.at 12 = .bool z ∧ S.at 14 = sv ∧ S.at 91 = .bool true ∧ S.at 96 = .agg #[.slice p8 q8 u8, .int .i64 w8] ∧ S.at 97 = .slice (some ⟨d4, 0, none⟩) 10 10 ∧ S.at 99 = .bool x) ?_ ?_
  · simp only [c_seq, RUNA, RUNB, Nat.reduceAdd, Nat.reduceMod, Nat.reduceDiv, Nat.reduceSub, Nat.reduceMul, Nat.reduceEqDiff, Nat.reduceBEq, Nat.reduceLeDiff, Int.reduceToNat, fillS, wantG, vBox, Value.cells, one, putAt, z6, z7, z9, z10, z11, z12, z14, z91, z95, z97, z99]
  clear z6 z7 z9 z10 z11 z12 z14 z91 z95 z97 z99
  rintro S ⟨z6, z7, z9, z10, z11, z12, z14, z91, z96, z97, z99⟩
  refine wpc_mono (Evaluate_spec hD8 (Nat.le_refl _) (sb.mono e8) (e8.fr hF7)) ?_
  rintro r σ9' ⟨rfl, hE9⟩
  have e9 : EX τ7 σ9' := EX.trans e8 hE9
  have g9' : τ7.next + 90 ≤ σ9'.next := Nat.le_trans g8' hE9.next
  rw [show anyOf [φ, ψ, χ] [φ, ψ, χ].length (bt bs) = ((x || y) || z) from by simp [anyOf, hx, hy, hz, Bool.or_assoc]]
  simp only [YRUNA, YRUNB, Nat.reduceShiftRight, bit, c_seq, RUNA, RUNB, Nat.reduceAdd, Nat.reduceMod, Nat.reduceDiv, Nat.reduceSub, Nat.reduceMul, Nat.reduceEqDiff, Nat.reduceBEq, Nat.reduceLeDiff, Int.reduceToNat, fillS, wantG, vBox, Value.cells, one, putAt, TYA, z6, z7, z9, z10, z11, z12, z14, z91, z96, z97, z99, bb, n_eqb Try.underlying4, n_neb Try.underlying4, dsel_mv, p_g1, p_g2, (hA.mono e9).row, (hB.mono e9).row, (hC.mono e9).row]
  refine wpc_dgen (fun S => S.at 6 = .pointer (some ⟨σ.next + 13, 0, none⟩) ∧ S.at 9 = .slice (some ⟨d4, 0, none⟩) 10 10 ∧ S.at 14 = sv ∧ S.at 108 = .bool true ∧ S.at 109 = .agg #[.slice o1 k1 c1, .int .i64 i1] ∧ S.at 110 = .agg #[.slice o2 k2 c2, .int .i64 i2] ∧ S.at 112 = .slice (some ⟨d4, 0, none⟩) 10 10 ∧ S.at 116 = .bool (!(x == y))) ?_ ?_
  · simp only [c_seq, RUNA, RUNB, Nat.reduceAdd, Nat.reduceMod, Nat.reduceDiv, Nat.reduceSub, Nat.reduceMul, Nat.reduceEqDiff, Nat.reduceBEq, Nat.reduceLeDiff, Int.reduceToNat, fillS, wantG, vBox, Value.cells, one, putAt, z6, z7, z9, z10, z11, z12, z14, z91, z96, z97, z99]
  clear z6 z7 z9 z10 z11 z12 z14 z91 z96 z97 z99
  rintro S ⟨z6, z9, z14, z108, z109, z110, z112, z116⟩
  refine wpc_mono (Xor_spec (hA.mono e9).is (hB.mono e9).is (e9.fr hF7)) ?_
  rintro r σ10' ⟨hD10, hE10⟩
  obtain ⟨p10, q10, u10, w10, rfl⟩ := hD10.open
  have e10 : EX τ7 σ10' := EX.trans e9 hE10
  have g10' : τ7.next + 90 ≤ σ10'.next := Nat.le_trans g9' hE10.next
  simp only [YRUNA, YRUNB, Nat.reduceShiftRight, bit, c_seq, RUNA, RUNB, Nat.reduceAdd, Nat.reduceMod, Nat.reduceDiv, Nat.reduceSub, Nat.reduceMul, Nat.reduceEqDiff, Nat.reduceBEq, Nat.reduceLeDiff, Int.reduceToNat, fillS, wantG, vBox, Value.cells, one, putAt, TYA, z6, z9, z14, z108, z109, z110, z112, z116, bb, n_eqb Try.underlying4, n_neb Try.underlying4, dsel_mv, p_g1, p_g2, (hA.mono e10).row, (hB.mono e10).row, (hC.mono e10).row]
  refine wpc_dgen (fun S => S.at 6 = .pointer (some ⟨σ.next + 13, 0, none⟩) ∧ S.at 9 = .slice (some ⟨d4, 0, none⟩) 10 10 ∧ S.at 14 = sv ∧ S.at 108 = .bool true ∧ S.at 111 = .agg #[.slice p10 q10 u10, .int .i64 w10] ∧ S.at 112 = .slice (some ⟨d4, 0, none⟩) 10 10 ∧ S.at 116 = .bool (!(x == y))) ?_ ?_
  · simp only [c_seq, RUNA, RUNB, Nat.reduceAdd, Nat.reduceMod, Nat.reduceDiv, Nat.reduceSub, Nat.reduceMul, Nat.reduceEqDiff, Nat.reduceBEq, Nat.reduceLeDiff, Int.reduceToNat, fillS, wantG, vBox, Value.cells, one, putAt, z6, z9, z14, z108, z109, z110, z112, z116]
  clear z6 z9 z14 z108 z109 z110 z112 z116
  rintro S ⟨z6, z9, z14, z108, z111, z112, z116⟩
  refine wpc_mono (Evaluate_spec hD10 (Nat.le_refl _) (sb.mono e10) (e10.fr hF7)) ?_
  rintro r σ11' ⟨rfl, hE11⟩
  have e11 : EX τ7 σ11' := EX.trans e10 hE11
  have g11' : τ7.next + 90 ≤ σ11'.next := Nat.le_trans g10' hE11.next
  rw [hx, hy]
  simp only [YRUNA, YRUNB, Nat.reduceShiftRight, bit, c_seq, RUNA, RUNB, Nat.reduceAdd, Nat.reduceMod, Nat.reduceDiv, Nat.reduceSub, Nat.reduceMul, Nat.reduceEqDiff, Nat.reduceBEq, Nat.reduceLeDiff, Int.reduceToNat, fillS, wantG, vBox, Value.cells, one, putAt, TYA, z6, z9, z14, z108, z111, z112, z116, bb, n_eqb Try.underlying4, n_neb Try.underlying4, dsel_mv, p_g1, p_g2, (hA.mono e11).row, (hB.mono e11).row, (hC.mono e11).row]
  refine wpc_dgen (fun S => S.at 9 = .slice (some ⟨d4, 0, none⟩) 10 10 ∧ S.at 119 = .bool true ∧ S.at 120 = .agg #[.slice o1 k1 c1, .int .i64 i1] ∧ S.at 121 = sv ∧ S.at 123 = .agg #[.slice o1 k1 c1, .int .i64 i1] ∧ S.at 124 = sv) ?_ ?_
  · simp only [c_seq, RUNA, RUNB, Nat.reduceAdd, Nat.reduceMod, Nat.reduceDiv, Nat.reduceSub, Nat.reduceMul, Nat.reduceEqDiff, Nat.reduceBEq, Nat.reduceLeDiff, Int.reduceToNat, fillS, wantG, vBox, Value.cells, one, putAt, z6, z9, z14, z108, z111, z112, z116]
  clear z6 z9 z14 z108 z111 z112 z116
  rintro S ⟨z9, z119, z120, z121, z123, z124⟩
  refine wpc_mono (Evaluate_spec (hA.mono e11).is (Nat.le_refl _) (sv7.mono e11) (e11.fr hF7)) ?_
  rintro r σ12' ⟨rfl, hE12⟩
  have e12 : EX τ7 σ12' := EX.trans e11 hE12
  have g12' : τ7.next + 90 ≤ σ12'.next := Nat.le_trans g11' hE12.next
  skip
  simp only [YRUNA, YRUNB, Nat.reduceShiftRight, bit, c_seq, RUNA, RUNB, Nat.reduceAdd, Nat.reduceMod, Nat.reduceDiv, Nat.reduceSub, Nat.reduceMul, Nat.reduceEqDiff, Nat.reduceBEq, Nat.reduceLeDiff, Int.reduceToNat, fillS, wantG, vBox, Value.cells, one, putAt, TYA, z9, z119, z120, z121, z123, z124, bb, n_eqb Try.underlying4, n_neb Try.underlying4, dsel_mv, p_g1, p_g2, (hA.mono e12).row, (hB.mono e12).row, (hC.mono e12).row]
  refine wpc_dgen (fun S => S.at 9 = .slice (some ⟨d4, 0, none⟩) 10 10 ∧ S.at 119 = .bool true ∧ S.at 122 = .bool (φ (bt (bs.take kk))) ∧ S.at 123 = .agg #[.slice o1 k1 c1, .int .i64 i1] ∧ S.at 124 = sv) ?_ ?_
  · simp only [c_seq, RUNA, RUNB, Nat.reduceAdd, Nat.reduceMod, Nat.reduceDiv, Nat.reduceSub, Nat.reduceMul, Nat.reduceEqDiff, Nat.reduceBEq, Nat.reduceLeDiff, Int.reduceToNat, fillS, wantG, vBox, Value.cells, one, putAt, z9, z119, z120, z121, z123, z124]
  clear z9 z119 z120 z121 z123 z124
  rintro S ⟨z9, z119, z122, z123, z124⟩
  refine wpc_mono (refEvaluate_is (hA.mono e12).is (sv7.mono e12)) ?_
  rintro r σ13' ⟨rfl, hE13⟩
  have e13 : EX τ7 σ13' := EX.trans e12 hE13
  have g13' : τ7.next + 90 ≤ σ13'.next := Nat.le_trans g12' hE13.next
  skip
  simp only [YRUNA, YRUNB, Nat.reduceShiftRight, bit, c_seq, RUNA, RUNB, Nat.reduceAdd, Nat.reduceMod, Nat.reduceDiv, Nat.reduceSub, Nat.reduceMul, Nat.reduceEqDiff, Nat.reduceBEq, Nat.reduceLeDiff, Int.reduceToNat, fillS, wantG, vBox, Value.cells, one, putAt, TYA, z9, z119, z122, z123, z124, bb, n_eqb Try.underlying4, n_neb Try.underlying4, dsel_mv, p_g1, p_g2, (hA.mono e13).row, (hB.mono e13).row, (hC.mono e13).row]
  refine wpc_dgen (fun S => S.at 9 = .slice (some ⟨d4, 0, none⟩) 10 10 ∧ S.at 128 = .bool true ∧ S.at 130 = .slice (some ⟨d4, 0, none⟩) 10 10) ?_ ?_
  · simp only [c_seq, RUNA, RUNB, Nat.reduceAdd, Nat.reduceMod, Nat.reduceDiv, Nat.reduceSub, Nat.reduceMul, Nat.reduceEqDiff, Nat.reduceBEq, Nat.reduceLeDiff, Int.reduceToNat, fillS, wantG, vBox, Value.cells, one, putAt, z9, z119, z122, z123, z124]
  clear z9 z119 z122 z123 z124
  rintro S ⟨z9, z128, z130⟩
  refine wpc_mono (And_spec (DL0 _) (by simp) (e13.fr hF7)) ?_
  rintro r σ14' ⟨hD14, hE14⟩
  obtain ⟨p14, q14, u14, w14, rfl⟩ := hD14.open
  have e14 : EX τ7 σ14' := EX.trans e13 hE14
  have g14' : τ7.next + 90 ≤ σ14'.next := Nat.le_trans g13' hE14.next
  simp only [YRUNA, YRUNB, Nat.reduceShiftRight, bit, c_seq, RUNA, RUNB, Nat.reduceAdd, Nat.reduceMod, Nat.reduceDiv, Nat.reduceSub, Nat.reduceMul, Nat.reduceEqDiff, Nat.reduceBEq, Nat.reduceLeDiff, Int.reduceToNat, fillS, wantG, vBox, Value.cells, one, putAt, TYA, z9, z128, z130, bb, n_eqb Try.underlying4, n_neb Try.underlying4, dsel_mv, p_g1, p_g2, (hA.mono e14).row, (hB.mono e14).row, (hC.mono e14).row]
  refine wpc_dgen (fun S => S.at 9 = .slice (some ⟨d4, 0, none⟩) 10 10 ∧ S.at 128 = .bool true ∧ S.at 129 = .agg #[.slice p14 q14 u14, .int .i64 w14] ∧ S.at 130 = .slice (some ⟨d4, 0, none⟩) 10 10) ?_ ?_
  · simp only [c_seq, RUNA, RUNB, Nat.reduceAdd, Nat.reduceMod, Nat.reduceDiv, Nat.reduceSub, Nat.reduceMul, Nat.reduceEqDiff, Nat.reduceBEq, Nat.reduceLeDiff, Int.reduceToNat, fillS, wantG, vBox, Value.cells, one, putAt, z9, z128, z130]
  clear z9 z128 z130
  rintro S ⟨z9, z128, z129, z130⟩
  refine wpc_mono (Evaluate_spec hD14 (Nat.le_refl _) (sb.mono e14) (e14.fr hF7)) ?_
  rintro r σ15' ⟨rfl, hE15⟩
  have e15 : EX τ7 σ15' := EX.trans e14 hE15
  have g15' : τ7.next + 90 ≤ σ15'.next := Nat.le_trans g14' hE15.next
  rw [show allOf [] ([] : List (As → Bool)).length (bt bs) = true from rfl]
  simp only [YRUNA, YRUNB, Nat.reduceShiftRight, bit, c_seq, RUNA, RUNB, Nat.reduceAdd, Nat.reduceMod, Nat.reduceDiv, Nat.reduceSub, Nat.reduceMul, Nat.reduceEqDiff, Nat.reduceBEq, Nat.reduceLeDiff, Int.reduceToNat, fillS, wantG, vBox, Value.cells, one, putAt, TYA, z9, z128, z129, z130, bb, n_eqb Try.underlying4, n_neb Try.underlying4, dsel_mv, p_g1, p_g2, (hA.mono e15).row, (hB.mono e15).row, (hC.mono e15).row]
  refine wpc_dgen (fun S => S.at 133 = .bool true ∧ S.at 135 = .slice (some ⟨d4, 0, none⟩) 10 10) ?_ ?_
  · simp only [c_seq, RUNA, RUNB, Nat.reduceAdd, Nat.reduceMod, Nat.reduceDiv, Nat.reduceSub, Nat.reduceMul, Nat.reduceEqDiff, Nat.reduceBEq, Nat.reduceLeDiff, Int.reduceToNat, fillS, wantG, vBox, Value.cells, one, putAt, z9, z128, z129, z130]
  clear z9 z128 z129 z130
  rintro S ⟨z133, z135⟩
  refine wpc_mono (Or_spec (DL0 _) (by simp) (e15.fr hF7)) ?_
  rintro r σ16' ⟨hD16, hE16⟩
  obtain ⟨p16, q16, u16, w16, rfl⟩ := hD16.open
  have e16 : EX τ7 σ16' := EX.trans e15 hE16
  have g16' : τ7.next + 90 ≤ σ16'.next := Nat.le_trans g15' hE16.next
  simp only [YRUNA, YRUNB, Nat.reduceShiftRight, bit, c_seq, RUNA, RUNB, Nat.reduceAdd, Nat.reduceMod, Nat.reduceDiv, Nat.reduceSub, Nat.reduceMul, Nat.reduceEqDiff, Nat.reduceBEq, Nat.reduceLeDiff, Int.reduceToNat, fillS, wantG, vBox, Value.cells, one, putAt, TYA, z133, z135, bb, n_eqb Try.underlying4, n_neb Try.underlying4, dsel_mv, p_g1, p_g2, (hA.mono e16).row, (hB.mono e16).row, (hC.mono e16).row]
  refine wpc_dgen (fun S => S.at 133 = .bool true ∧ S.at 134 = .agg #[.slice p16 q16 u16, .int .i64 w16] ∧ S.at 135 = .slice (some ⟨d4, 0, none⟩) 10 10) ?_ ?_
  · simp only [c_seq, RUNA, RUNB, Nat.reduceAdd, Nat.reduceMod, Nat.reduceDiv, Nat.reduceSub, Nat.reduceMul, Nat.reduceEqDiff, Nat.reduceBEq, Nat.reduceLeDiff, Int.reduceToNat, fillS, wantG, vBox, Value.cells, one, putAt, z133, z135]
  clear z133 z135
  rintro S ⟨z133, z134, z135⟩
  refine wpc_mono (Evaluate_spec hD16 (Nat.le_refl _) (sb.mono e16) (e16.fr hF7)) ?_
  rintro r σ17' ⟨rfl, hE17⟩
  have e17 : EX τ7 σ17' := EX.trans e16 hE17
  have g17' : τ7.next + 90 ≤ σ17'.next := Nat.le_trans g16' hE17.next
  rw [show anyOf [] ([] : List (As → Bool)).length (bt bs) = false from rfl]
  simp only [YRUNA, YRUNB, Nat.reduceShiftRight, bit, c_seq, RUNA, RUNB, Nat.reduceAdd, Nat.reduceMod, Nat.reduceDiv, Nat.reduceSub, Nat.reduceMul, Nat.reduceEqDiff, Nat.reduceBEq, Nat.reduceLeDiff, Int.reduceToNat, fillS, wantG, vBox, Value.cells, one, putAt, TYA, z133, z134, z135, bb, n_eqb Try.underlying4, n_neb Try.underlying4, dsel_mv, p_g1, p_g2, (hA.mono e17).row, (hB.mono e17).row, (hC.mono e17).row, hr, Bool.not_false]
end Go.Proofs.Ytlealdhgajomhaa
