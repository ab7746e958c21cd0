/- The reference's Diagram: the walk. -/
import Derived.Test.YtlealdhgajomhaaBddD
namespace Go.Proofs.Ytlealdhgajomhaa
set_option linter.unusedVariables false
open Go.AI
set_option linter.unusedSimpArgs false

/-! ### bits -/
theorem or_nat {x y : Nat} (hx : x < 2 ^ 62) (hy : y < 2 ^ 62) : IntKind.i64.wrap ((BitVec.ofInt 64 (x : Int) ||| BitVec.ofInt 64 (y : Int)).toNat : Int) = ((x ||| y : Nat) : Int) := by
  have h : x ||| y < 2 ^ 62 := Nat.or_lt_two_pow hx hy
  have e : (BitVec.ofInt 64 (x : Int) ||| BitVec.ofInt 64 (y : Int)).toNat = x ||| y := by
    rw [BitVec.toNat_or, BitVec.ofInt_natCast, BitVec.ofInt_natCast, BitVec.toNat_ofNat, BitVec.toNat_ofNat, Nat.mod_eq_of_lt (by omega), Nat.mod_eq_of_lt (by omega)]
  rw [e]
  exact wrap64 (by omega) (by omega)
theorem and_nat {x y : Nat} (hx : x < 2 ^ 62) (hy : y < 2 ^ 62) : IntKind.i64.wrap ((BitVec.ofInt 64 (x : Int) &&& BitVec.ofInt 64 (y : Int)).toNat : Int) = ((x &&& y : Nat) : Int) := by
  have h : x &&& y < 2 ^ 62 := Nat.and_lt_two_pow x hy
  have e : (BitVec.ofInt 64 (x : Int) &&& BitVec.ofInt 64 (y : Int)).toNat = x &&& y := by
    rw [BitVec.toNat_and, BitVec.ofInt_natCast, BitVec.ofInt_natCast, BitVec.toNat_ofNat, BitVec.toNat_ofNat, Nat.mod_eq_of_lt (by omega), Nat.mod_eq_of_lt (by omega)]
  rw [e]
  exact wrap64 (by omega) (by omega)
theorem and_one {x : Nat} (hx : x < 2 ^ 62) : IntKind.i64.wrap ((BitVec.ofInt IntKind.i64.bits (x : Int) &&& BitVec.ofInt IntKind.i64.bits 1).toNat : Int) = ((x % 2 : Nat) : Int) := by
  have := and_nat (x := x) (y := 1) hx (by decide)
  rw [Nat.and_one_is_mod] at this
  exact this
theorem shr_nat {n i : Nat} (hi : i ≤ 64) : Int.fdiv (n : Int) (2 ^ (min i IntKind.i64.bits)) = ((n / 2 ^ i : Nat) : Int) := by
  rw [show min i IntKind.i64.bits = i from Nat.min_eq_left hi, Int.fdiv_eq_ediv_of_nonneg _ (by exact_mod_cast Nat.zero_le (2 ^ i))]
  exact_mod_cast rfl

/-- the bit reversed number: after 'i' steps -/
def rv (n : Nat) : Nat → Nat
  | 0 => 0
  | i + 1 => if n / 2 ^ i % 2 = 1 then rv n i ||| 2 ^ (9 - i) else rv n i
theorem rv_lt (n : Nat) : ∀ i, rv n i < 2 ^ 10 := by
  intro i
  induction i with
  | zero => simp [rv]
  | succ i ih =>
    simp only [rv]
    split
    · exact Nat.or_lt_two_pow ih (Nat.pow_lt_pow_right (by decide) (by omega))
    · exact ih
/-- the table turned: after 'n' entries -/
def turn (t : List Bool) : Nat → List Bool
  | 0 => List.replicate 1024 false
  | n + 1 => (turn t n).set (rv n 10) (bt t n)
theorem turn_len (t : List Bool) : ∀ n, (turn t n).length = 1024 := by
  intro n
  induction n with
  | zero => exact List.length_replicate
  | succ n ih => simp [turn, ih]
/-- the diagram of a table -/
def dgm (t : List Bool) : List Vtx × Int := ((bld 10 (turn t 1024) c01).2, (bld 10 (turn t 1024) c01).1)

theorem dgm_eq (t : List Bool) : dgm t = ((bld 10 (turn t 1024) c01).2, (bld 10 (turn t 1024) c01).1) := by unfold dgm; exact rfl

theorem zeros_false : ∀ n, zerosOf [.bool false] n = (List.replicate n false).map Value.bool := by
  intro n
  induction n with
  | zero => rfl
  | succ n ih => rw [zerosOf, ih]; simp [List.replicate_succ]

theorem bd78 (a : Option Addr) (n c : Nat) : abuild Try.prog 78 #[(0, .slice a n c)] = some (.agg #[.slice a n c]) := by kernel_rfl
theorem Diagram_spec (σ : St) (tid off c : Nat) (row : List Value) (m : Mta) (t : List Bool) (hlen : t.length = 1024) (htid : tid < σ.next) (hrow : σ.row tid = some (row, m)) (hrt : (row.drop off).take 1024 = t.map Value.bool) (hF : Fr σ) :
    wpc Try.prog 45 #[.slice (some ⟨tid, off, none⟩) 1024 c] σ fun r σ' => DVf σ.next σ' r (dgm t) ∧ EX σ σ' := by
  refine body_go Try.func45 rfl ?_
  have hr := Try.results45
  have hmk : ∀ id, vMake Try.prog 43 (.int .i64 ((1024 : Nat) : Int)) (.int .i64 ((1024 : Nat) : Int)) id = some (.slice (some ⟨id, 0, none⟩) 1024 1024, .cells ((turn t 0).map Value.bool) (rowMeta 1)) := by
    intro id
    rw [mk_eq Try.underlying43 if4 (by omega) (by omega) rfl rfl (by omega)]
    rw [show (Value.cells (.bool false)).toList = [.bool false] from rfl, zeros_false]; rfl
  simp only [c_seq, RUNA, Nat.reduceAdd, Nat.reduceMod, Nat.reduceDiv, Nat.reduceSub, Nat.reduceMul, Nat.reduceEqDiff, Nat.reduceBEq, Nat.reduceLeDiff, Int.reduceToNat, fillS, wantG, vBox, Value.cells, one, putAt, Option.getD_some, Option.map_some, Option.bind_some, ne_eq, Option.some.injEq, Prod.mk.injEq, exists_and_left, exists_eq_left', exists_eq_left, List.size_toArray, List.length_cons, List.length_nil, if_true, if_false, exists_eq', exists_const, List.getElem?_cons_zero, List.getElem?_cons_succ, List.map_toArray, List.map_cons, List.map_nil, beq_iff_eq, List.all_cons, List.all_nil, cond_true, List.set_cons_zero, List.set_cons_succ, List.drop_zero, List.drop_succ_cons, List.take_succ_cons, List.take_zero, List.getElem?_toArray, Option.map_none, Option.getD_none, hr, al25, ln43, hmk]
  refine loop_go (fun m S τ => S.at 0 = .slice (some ⟨tid, off, none⟩) 1024 c ∧ S.at 2 = .pointer (some ⟨σ.next, 0, none⟩) ∧ S.at 3 = .slice (some ⟨σ.next + 3, 0, none⟩) 1024 1024 ∧ EX σ τ ∧ σ.next + 4 < τ.next ∧
    τ.row σ.next = some ([.slice none 0 0, .int .i64 0], boxMeta) ∧
    ∃ n : Nat, S.at 4 = .int .i64 n ∧ n ≤ 1024 ∧ m = 1024 - n ∧ τ.row (σ.next + 3) = some ((turn t n).map Value.bool, rowMeta 1)) 1024 ?_ ?_
  · simp only [c_seq, RUNA, Nat.reduceAdd, Nat.reduceMod, Nat.reduceDiv, Nat.reduceSub, Nat.reduceMul, Nat.reduceEqDiff, Nat.reduceBEq, Nat.reduceLeDiff, Int.reduceToNat, fillS, wantG, vBox, Value.cells, one, putAt, Option.getD_some, Option.map_some, Option.bind_some, ne_eq, Option.some.injEq, Prod.mk.injEq, exists_and_left, exists_eq_left', exists_eq_left, List.size_toArray, List.length_cons, List.length_nil, if_true, if_false, exists_eq', exists_const, List.getElem?_cons_zero, List.getElem?_cons_succ, List.map_toArray, List.map_cons, List.map_nil, beq_iff_eq, List.all_cons, List.all_nil, cond_true, List.set_cons_zero, List.set_cons_succ, List.drop_zero, List.drop_succ_cons, List.take_succ_cons, List.take_zero, List.getElem?_toArray, Option.map_none, Option.getD_none]
    refine ⟨?_, by omega, 0, rfl, by omega, by omega, rfl⟩
    repeat first | assumption | exact EXn.refl _ _ | refine EXn.more ?_ _ | refine EXn.put ?_ (by omega) _
  · rintro _ S τ ⟨s0, s2, s3, hE, hx, r0, n, s4, hn, rfl, rt⟩
    have ra : τ.row tid = some (row, m) := (hE.row tid htid).trans hrow
    by_cases hlt : n < 1024
    · have hd : decide ((n : Int) < ((1024 : Nat) : Int)) = true := by simp; omega
      have z2 : (0 : Int) ≤ (n : Int) := by omega
      have z3 : (n : Int) < ((1024 : Nat) : Int) := by omega
      have hw : IntKind.i64.wrap ((n : Int) + 1) = ((n + 1 : Nat) : Int) := by rw [wrap64 (by omega) (by omega)]; rfl
      have tn : row[off + n]? = some (.bool (bt t n)) := tb_at (t := t) (i := n) (by rw [hlen]; exact hrt) (by omega)
      simp only [c_seq, RUNA, Nat.reduceAdd, Nat.reduceMod, Nat.reduceDiv, Nat.reduceSub, Nat.reduceMul, Nat.reduceEqDiff, Nat.reduceBEq, Nat.reduceLeDiff, Int.reduceToNat, fillS, wantG, vBox, Value.cells, one, putAt, Option.getD_some, Option.map_some, Option.bind_some, ne_eq, Option.some.injEq, Prod.mk.injEq, exists_and_left, exists_eq_left', exists_eq_left, List.size_toArray, List.length_cons, List.length_nil, if_true, if_false, exists_eq', exists_const, List.getElem?_cons_zero, List.getElem?_cons_succ, List.map_toArray, List.map_cons, List.map_nil, beq_iff_eq, List.all_cons, List.all_nil, cond_true, List.set_cons_zero, List.set_cons_succ, List.drop_zero, List.drop_succ_cons, List.take_succ_cons, List.take_zero, List.getElem?_toArray, Option.map_none, Option.getD_none, s0, s2, s3, s4, hd, ln43]
      refine loop_go (fun m S τ' => S.at 0 = .slice (some ⟨tid, off, none⟩) 1024 c ∧ S.at 2 = .pointer (some ⟨σ.next, 0, none⟩) ∧ S.at 3 = .slice (some ⟨σ.next + 3, 0, none⟩) 1024 1024 ∧ S.at 4 = .int .i64 n ∧ EX τ τ' ∧
        ∃ i : Nat, S.at 6 = .int .i64 i ∧ i ≤ 10 ∧ m = 10 - i ∧ S.at 5 = .int .i64 (rv n i : Nat)) 10 ?_ ?_
      · simp only [c_seq, RUNA, Nat.reduceAdd, Nat.reduceMod, Nat.reduceDiv, Nat.reduceSub, Nat.reduceMul, Nat.reduceEqDiff, Nat.reduceBEq, Nat.reduceLeDiff, Int.reduceToNat, fillS, wantG, vBox, Value.cells, one, putAt, Option.getD_some, Option.map_some, Option.bind_some, ne_eq, Option.some.injEq, Prod.mk.injEq, exists_and_left, exists_eq_left', exists_eq_left, List.size_toArray, List.length_cons, List.length_nil, if_true, if_false, exists_eq', exists_const, List.getElem?_cons_zero, List.getElem?_cons_succ, List.map_toArray, List.map_cons, List.map_nil, beq_iff_eq, List.all_cons, List.all_nil, cond_true, List.set_cons_zero, List.set_cons_succ, List.drop_zero, List.drop_succ_cons, List.take_succ_cons, List.take_zero, List.getElem?_toArray, Option.map_none, Option.getD_none, s0, s2, s3, s4]
        refine ⟨?_, 0, rfl, by omega, by omega, rfl⟩
        repeat first | assumption | exact EXn.refl _ _ | refine EXn.more ?_ _ | refine EXn.put ?_ (by omega) _
      · clear s0 s2 s3 s4
        rintro _ S τ' ⟨s0, s2, s3, s4, hE', i, s6, hi, rfl, s5⟩
        have hn' := hE'.next
        by_cases hil : i < 10
        · have hd' : decide ((i : Int) < 10) = true := by simp; omega
          have z4 : (0 : Int) ≤ (i : Int) := by omega
          have z5 : (0 : Int) ≤ ((9 - i : Nat) : Int) := by omega
          have hsh := shr_nat (n := n) (i := i) (by omega)
          have hlt2 : n / 2 ^ i < 2 ^ 62 := Nat.lt_of_le_of_lt (Nat.div_le_self _ _) (by omega)
          have han := and_one hlt2
          have hw' : IntKind.i64.wrap ((i : Int) + 1) = ((i + 1 : Nat) : Int) := by rw [wrap64 (by omega) (by omega)]; rfl
          by_cases hb : n / 2 ^ i % 2 = 1
          · have hb' : (((n / 2 ^ i % 2 : Nat) : Int) == 1) = true := by rw [hb]; rfl
            have h9 : IntKind.i64.wrap (9 - (i : Int)) = ((9 - i : Nat) : Int) := by rw [wrap64 (by omega) (by omega)]; omega
            have h2 : IntKind.i64.wrap (1 * 2 ^ (min (9 - i) IntKind.i64.bits)) = ((2 ^ (9 - i) : Nat) : Int) := by
              rw [show min (9 - i) IntKind.i64.bits = 9 - i from Nat.min_eq_left (by show 9 - i ≤ 64; omega)]
              have : 2 ^ (9 - i) < 2 ^ 10 := Nat.pow_lt_pow_right (by decide) (by omega)
              rw [Int.one_mul, show (2 : Int) ^ (9 - i) = ((2 ^ (9 - i) : Nat) : Int) by exact_mod_cast rfl]
              generalize 2 ^ (9 - i) = P2 at *
              exact wrap64 (by omega) (by omega)
            have hor := or_nat (x := rv n i) (y := 2 ^ (9 - i)) (Nat.lt_of_lt_of_le (rv_lt n i) (by decide)) (Nat.pow_lt_pow_right (by decide) (by omega))
            simp only [c_seq, RUNA, Nat.reduceAdd, Nat.reduceMod, Nat.reduceDiv, Nat.reduceSub, Nat.reduceMul, Nat.reduceEqDiff, Nat.reduceBEq, Nat.reduceLeDiff, Int.reduceToNat, fillS, wantG, vBox, Value.cells, one, putAt, Option.getD_some, Option.map_some, Option.bind_some, ne_eq, Option.some.injEq, Prod.mk.injEq, exists_and_left, exists_eq_left', exists_eq_left, List.size_toArray, List.length_cons, List.length_nil, if_true, if_false, exists_eq', exists_const, List.getElem?_cons_zero, List.getElem?_cons_succ, List.map_toArray, List.map_cons, List.map_nil, beq_iff_eq, List.all_cons, List.all_nil, cond_true, List.set_cons_zero, List.set_cons_succ, List.drop_zero, List.drop_succ_cons, List.take_succ_cons, List.take_zero, List.getElem?_toArray, Option.map_none, Option.getD_none, s0, s2, s3, s4, s5, s6, hd', n_shr z4, n_shl z5, hsh, han, hb', h9, h2, hw']
            refine ⟨10 - (i + 1), by omega, ?_, i + 1, rfl, by omega, rfl, ?_⟩
            · repeat first | assumption | exact EXn.refl _ _ | refine EXn.more ?_ _ | refine EXn.put ?_ (by omega) _
            · refine congrArg (Value.int IntKind.i64) (Eq.trans hor ?_)
              simp only [rv, hb, if_true]
          · have hb' : (((n / 2 ^ i % 2 : Nat) : Int) == 1) = false := by rw [show n / 2 ^ i % 2 = 0 by omega]; rfl
            simp only [c_seq, RUNA, Nat.reduceAdd, Nat.reduceMod, Nat.reduceDiv, Nat.reduceSub, Nat.reduceMul, Nat.reduceEqDiff, Nat.reduceBEq, Nat.reduceLeDiff, Int.reduceToNat, fillS, wantG, vBox, Value.cells, one, putAt, Option.getD_some, Option.map_some, Option.bind_some, ne_eq, Option.some.injEq, Prod.mk.injEq, exists_and_left, exists_eq_left', exists_eq_left, List.size_toArray, List.length_cons, List.length_nil, if_true, if_false, exists_eq', exists_const, List.getElem?_cons_zero, List.getElem?_cons_succ, List.map_toArray, List.map_cons, List.map_nil, beq_iff_eq, List.all_cons, List.all_nil, cond_true, List.set_cons_zero, List.set_cons_succ, List.drop_zero, List.drop_succ_cons, List.take_succ_cons, List.take_zero, List.getElem?_toArray, Option.map_none, Option.getD_none, s0, s2, s3, s4, s5, s6, hd', n_shr z4, n_shl z5, hsh, han, hb', hw']
            refine ⟨10 - (i + 1), by omega, ?_, i + 1, rfl, by omega, rfl, ?_⟩
            · repeat first | assumption | exact EXn.refl _ _ | refine EXn.more ?_ _ | refine EXn.put ?_ (by omega) _
            · simp only [rv, hb, if_false]
        · have hd' : decide ((i : Int) < 10) = false := by simp; omega
          have hi10 : i = 10 := by omega
          rw [hi10] at s5
          have hrl := rv_lt n 10
          have z6 : (0 : Int) ≤ ((rv n 10 : Nat) : Int) := by omega
          have z7 : ((rv n 10 : Nat) : Int) < ((1024 : Nat) : Int) := by omega
          have ra' : τ'.row tid = some (row, m) := (hE'.row tid (by omega)).trans ra
          have rt' : τ'.row (σ.next + 3) = some ((turn t n).map Value.bool, rowMeta 1) := (hE'.row _ (by omega)).trans rt
          have r0' : τ'.row σ.next = some ([.slice none 0 0, .int .i64 0], boxMeta) := (hE'.row _ (by omega)).trans r0
          have hle : rv n 10 + 1 ≤ ((turn t n).map Value.bool).length := by rw [List.length_map, turn_len]; omega
          simp only [c_seq, RUNA, Nat.reduceAdd, Nat.reduceMod, Nat.reduceDiv, Nat.reduceSub, Nat.reduceMul, Nat.reduceEqDiff, Nat.reduceBEq, Nat.reduceLeDiff, Int.reduceToNat, fillS, wantG, vBox, Value.cells, one, putAt, Option.getD_some, Option.map_some, Option.bind_some, ne_eq, Option.some.injEq, Prod.mk.injEq, exists_and_left, exists_eq_left', exists_eq_left, List.size_toArray, List.length_cons, List.length_nil, if_true, if_false, exists_eq', exists_const, List.getElem?_cons_zero, List.getElem?_cons_succ, List.map_toArray, List.map_cons, List.map_nil, beq_iff_eq, List.all_cons, List.all_nil, cond_true, List.set_cons_zero, List.set_cons_succ, List.drop_zero, List.drop_succ_cons, List.take_succ_cons, List.take_zero, List.getElem?_toArray, Option.map_none, Option.getD_none, s0, s2, s3, s4, s5, s6, hd', ia43 z2 z3, ia43 z6 z7, ld4, st4, ra', tn, rt', hle, hw, r0']
          refine ⟨1024 - (n + 1), by omega, ?_, by omega, n + 1, rfl, by omega, rfl, ?_⟩
          · refine EXn.more (EXn.put (EXn.more (EXn.more (EX.trans hE hE') _) _) (by omega) _) _
          · rw [turn, List.map_set]
    · have hd : decide ((n : Int) < ((1024 : Nat) : Int)) = false := by simp; omega
      have hn1 : n = 1024 := by omega
      rw [hn1] at rt
      simp only [c_seq, RUNA, Nat.reduceAdd, Nat.reduceMod, Nat.reduceDiv, Nat.reduceSub, Nat.reduceMul, Nat.reduceEqDiff, Nat.reduceBEq, Nat.reduceLeDiff, Int.reduceToNat, fillS, wantG, vBox, Value.cells, one, putAt, Option.getD_some, Option.map_some, Option.bind_some, ne_eq, Option.some.injEq, Prod.mk.injEq, exists_and_left, exists_eq_left', exists_eq_left, List.size_toArray, List.length_cons, List.length_nil, if_true, if_false, exists_eq', exists_const, List.getElem?_cons_zero, List.getElem?_cons_succ, List.map_toArray, List.map_cons, List.map_nil, beq_iff_eq, List.all_cons, List.all_nil, cond_true, List.set_cons_zero, List.set_cons_succ, List.drop_zero, List.drop_succ_cons, List.take_succ_cons, List.take_zero, List.getElem?_toArray, Option.map_none, Option.getD_none, s0, s2, s3, s4, hd, ln43, bd40, bd40_1, bs23_2, bd78]
      have e1 : EX τ ((((((τ.more 4).more 6).put (τ.next + 6) (AObj.cells (flat [(-1, 0, 0), (-1, 1, 1)]) (rowMeta 3))).put (τ.next + 8) (AObj.cells [Value.slice (some ⟨τ.next + 6, 0, none⟩) 2 2] boxMeta)).more 4)) := by repeat first | assumption | exact EXn.refl _ _ | refine EXn.more ?_ _ | refine EXn.put ?_ (by omega) _
      have e2 := EX.trans hE e1
      have htk : (((turn t 1024).map Value.bool).drop 0).take 1024 = (turn t 1024).map Value.bool := by
        rw [List.drop_zero, List.take_of_length_le (by rw [List.length_map, turn_len]; omega)]
      have hBL : BL ((((((τ.more 4).more 6).put (τ.next + 6) (AObj.cells (flat [(-1, 0, 0), (-1, 1, 1)]) (rowMeta 3))).put (τ.next + 8) (AObj.cells [Value.slice (some ⟨τ.next + 6, 0, none⟩) 2 2] boxMeta)).more 4)) τ.next (τ.next + 8) c01 := by
        refine ⟨.slice (some ⟨τ.next + 6, 0, none⟩) 2 2, τ.next + 6, ?_, ⟨2, rowMeta 3, rfl, ?_, ?_, rfl, rfl, rfl, Or.inl rfl⟩, by omega, ?_, by omega, by omega⟩
        · simp only [c_seq, RUNA, Nat.reduceAdd, Nat.reduceMod, Nat.reduceDiv, Nat.reduceSub, Nat.reduceMul, Nat.reduceEqDiff, Nat.reduceBEq, Nat.reduceLeDiff, Int.reduceToNat, fillS, wantG, vBox, Value.cells, one, putAt, Option.getD_some, Option.map_some, Option.bind_some, ne_eq, Option.some.injEq, Prod.mk.injEq, exists_and_left, exists_eq_left', exists_eq_left, List.size_toArray, List.length_cons, List.length_nil, if_true, if_false, exists_eq', exists_const, List.getElem?_cons_zero, List.getElem?_cons_succ, List.map_toArray, List.map_cons, List.map_nil, beq_iff_eq, List.all_cons, List.all_nil, cond_true, List.set_cons_zero, List.set_cons_succ, List.drop_zero, List.drop_succ_cons, List.take_succ_cons, List.take_zero, List.getElem?_toArray, Option.map_none, Option.getD_none]
        · simp only [next_more, next_put]; omega
        · simp only [c_seq, RUNA, Nat.reduceAdd, Nat.reduceMod, Nat.reduceDiv, Nat.reduceSub, Nat.reduceMul, Nat.reduceEqDiff, Nat.reduceBEq, Nat.reduceLeDiff, Int.reduceToNat, fillS, wantG, vBox, Value.cells, one, putAt, Option.getD_some, Option.map_some, Option.bind_some, ne_eq, Option.some.injEq, Prod.mk.injEq, exists_and_left, exists_eq_left', exists_eq_left, List.size_toArray, List.length_cons, List.length_nil, if_true, if_false, exists_eq', exists_const, List.getElem?_cons_zero, List.getElem?_cons_succ, List.map_toArray, List.map_cons, List.map_nil, beq_iff_eq, List.all_cons, List.all_nil, cond_true, List.set_cons_zero, List.set_cons_succ, List.drop_zero, List.drop_succ_cons, List.take_succ_cons, List.take_zero, List.getElem?_toArray, Option.map_none, Option.getD_none]; rfl
        · simp only [next_more, next_put]; omega
      have r3 := (e1.row _ (by omega : σ.next + 3 < τ.next)).trans rt
      have hf3 := e2.fr hF
      have n3 : τ.next ≤ (((((((τ.more 4).more 6).put (τ.next + 6) (AObj.cells (flat [(-1, 0, 0), (-1, 1, 1)]) (rowMeta 3))).put (τ.next + 8) (AObj.cells [Value.slice (some ⟨τ.next + 6, 0, none⟩) 2 2] boxMeta)).more 4))).next := e1.next
      have hv := vertex_spec τ.next (τ.next + 8) 10 (by omega) (turn t 1024) c01 _ (σ.next + 3) 0 1024 1024 _ (rowMeta 1) rfl (turn_len t 1024) (by decide) (by decide) (by omega) n3 r3 rfl htk hBL hf3
      refine wpc_mono hv ?_
      rintro r σ3 ⟨rfl, ⟨sv, sid, b1, b2, b3, b7, b8, b9⟩, hE3⟩
      obtain ⟨kc, mm, rfl, b4, b5, b6⟩ := b2
      have hn3 := hE3.next
      have r2 : σ3.row σ.next = some ([.slice none 0 0, .int .i64 0], boxMeta) := ((hE3.row σ.next (by omega)).trans (e1.row _ (by omega))).trans r0
      simp only [c_seq, RUNA, Nat.reduceAdd, Nat.reduceMod, Nat.reduceDiv, Nat.reduceSub, Nat.reduceMul, Nat.reduceEqDiff, Nat.reduceBEq, Nat.reduceLeDiff, Int.reduceToNat, fillS, wantG, vBox, Value.cells, one, putAt, Option.getD_some, Option.map_some, Option.bind_some, ne_eq, Option.some.injEq, Prod.mk.injEq, exists_and_left, exists_eq_left', exists_eq_left, List.size_toArray, List.length_cons, List.length_nil, if_true, if_false, exists_eq', exists_const, List.getElem?_cons_zero, List.getElem?_cons_succ, List.map_toArray, List.map_cons, List.map_nil, beq_iff_eq, List.all_cons, List.all_nil, cond_true, List.set_cons_zero, List.set_cons_succ, List.drop_zero, List.drop_succ_cons, List.take_succ_cons, List.take_zero, List.getElem?_toArray, Option.map_none, Option.getD_none, s2, fa78_0, ld23, b1, bd25, st25, r2, ld25, hr]
      rw [dgm_eq]
      clear hv
      generalize bld 10 (turn t 1024) c01 = D at *
      refine ⟨⟨_, rfl, Or.inl ⟨sid, 0, kc, flat D.2, mm, rfl, by omega, ?_, ?_, ?_⟩⟩, ?_⟩
      · simp only [next_put, next_more]; omega
      · rw [row_put_ne (by omega), row_more, m3_eq b6.2.2.1]; exact b5
      · rw [List.drop_zero]
        exact List.take_of_length_le (by rw [flat_length]; exact Nat.le_refl _)
      · refine EXn.put (EXn.more ?_ _) (by omega) _
        exact EXn.trans e2 (EXn.weak hE3 hE.next)
end Go.Proofs.Ytlealdhgajomhaa
