/- The least satisfying values: plain. Both Witnesses: walks. The law BddCount: the walk. -/
import Derived.Test.YtlealdhgajomhaaBddCe
import Derived.Test.YtlealdhgajomhaaBddRb
import Derived.Test.YtlealdhgajomhaaBddY
namespace Go.Proofs.Ytlealdhgajomhaa
open Go.AI
set_option linter.unusedVariables false
set_option linter.unusedSimpArgs false

theorem cn_pos : ∀ (N : Nat) (φ : As → Bool), 0 < cn N φ ↔ ∃ f, (∀ j, N ≤ j → f j = false) ∧ φ f = true := by
  intro N
  induction N with
  | zero =>
    intro φ
    simp only [cn]
    constructor
    · intro h
      refine ⟨fun _ => false, fun _ _ => rfl, ?_⟩
      cases hf : φ (fun _ => false) with
      | true => rfl
      | false => rw [hf] at h; simp at h
    · rintro ⟨f, h1, h2⟩
      have : f = fun _ => false := funext fun j => h1 j (Nat.zero_le _)
      rw [← this, h2]; simp
  | succ N ih =>
    intro φ
    simp only [cn]
    have h1 := ih φ
    have h2 := ih (fun f => φ (upd f N true))
    constructor
    · intro h
      by_cases h3 : 0 < cn N φ
      · obtain ⟨f, g1, g2⟩ := h1.1 h3
        exact ⟨f, fun j hj => g1 j (by omega), g2⟩
      · obtain ⟨f, g1, g2⟩ := h2.1 (by omega)
        exact ⟨upd f N true, fun j hj => by rw [upd_ne (by omega)]; exact g1 j (by omega), g2⟩
    · rintro ⟨f, g1, g2⟩
      cases hf : f N with
      | true =>
        have : 0 < cn N (fun f => φ (upd f N true)) := h2.2 ⟨upd f N false, fun j hj => by
          by_cases e : j = N
          · rw [e, upd_self]
          · rw [upd_ne e]; exact g1 j (by omega), by
            show φ (upd (upd f N false) N true) = true
            rw [upd_upd, upd_id hf]; exact g2⟩
        omega
      | false =>
        have : 0 < cn N φ := h1.2 ⟨f, fun j hj => by
          by_cases e : j = N
          · rw [e]; exact hf
          · exact g1 j (by omega), g2⟩
        omega
/-- the first variables as in the list -/
def mixA (p : List Bool) (f : As) : As := fun j => if j < p.length then bt p j else f j
def preF (φ : As → Bool) (p : List Bool) : As → Bool := fun f => φ (mixA p f)
theorem bt_app_last {p : List Bool} {b : Bool} : bt (p ++ [b]) p.length = b := by simp [bt]
theorem bt_app_lt {p q : List Bool} {j : Nat} (h : j < p.length) : bt (p ++ q) j = bt p j := by
  unfold bt; rw [List.getD_eq_getElem?_getD, List.getD_eq_getElem?_getD, List.getElem?_append_left h]
theorem bt_out {p : List Bool} {j : Nat} (h : p.length ≤ j) : bt p j = false := by
  unfold bt; rw [List.getD_eq_getElem?_getD, List.getElem?_eq_none h]; rfl
theorem mixA_snoc {p : List Bool} {b : Bool} {f : As} : mixA (p ++ [b]) f = mixA p (upd f p.length b) := by
  funext j
  unfold mixA upd
  have hl : (p ++ [b]).length = p.length + 1 := by simp
  rw [hl]
  by_cases h : j < p.length
  · rw [if_pos (by omega), if_pos h, bt_app_lt h]
  · by_cases e : j = p.length
    · subst e; rw [if_pos (by omega), if_neg h, if_pos rfl, bt_app_last]
    · rw [if_neg (by omega), if_neg h, if_neg e]
theorem preF_nil {φ : As → Bool} : preF φ [] = φ := by funext f; unfold preF mixA; simp
theorem preF_snoc {φ : As → Bool} {p : List Bool} {b : Bool} : preF φ (p ++ [b]) = fun f => preF φ p (upd f p.length b) := by
  funext f; unfold preF; rw [mixA_snoc]
/-- what a witness is -/
structure WitP (φ : As → Bool) (N : Nat) (p : List Bool) : Prop where
  len : p.length = N
  sat : φ (bt p) = true
  least : ∀ j, j < N → bt p j = true → cn N (preF φ (p.take j ++ [false])) = 0
theorem mix_bt {p : List Bool} {N : Nat} (h : p.length = N) {f : As} (hf : ∀ j, N ≤ j → f j = false) : mixA p f = bt p := by
  funext j; unfold mixA
  split
  · rfl
  · rw [hf j (by omega), bt_out (by omega)]
theorem mix_self {p : List Bool} {j : Nat} (hj : bt p j = false) : mixA (p.take j ++ [false]) (bt p) = bt p := by
  rw [mixA_snoc]
  funext i
  unfold mixA upd
  have hl : (p.take j).length ≤ j := by rw [List.length_take]; omega
  split
  · rename_i h; exact bt_take (by omega)
  · split
    · rename_i h h'
      by_cases e : j ≤ p.length
      · have : (p.take j).length = j := by rw [List.length_take]; omega
        rw [h', this]; exact hj.symm
      · have : (p.take j).length = p.length := by rw [List.length_take]; omega
        rw [h', this]; exact (bt_out (Nat.le_refl _)).symm
    · rfl
theorem WitP.uniq {φ : As → Bool} {N : Nat} {p q : List Bool} (hp : WitP φ N p) (hq : WitP φ N q) : p = q := by
  have key : ∀ (p q : List Bool), WitP φ N p → WitP φ N q → ∀ j, j < N → (∀ i, i < j → bt p i = bt q i) → bt p j = true → bt q j = false → False := by
    intro p q hp hq j hj hpre h1 h2
    have h0 := hp.least j hj h1
    have ht : p.take j = q.take j := by
      apply List.ext_getElem?
      intro i
      rw [List.getElem?_take, List.getElem?_take]
      split
      · rename_i h
        have := hpre i h
        unfold bt at this
        rw [List.getD_eq_getElem?_getD, List.getD_eq_getElem?_getD, List.getElem?_eq_getElem (by have := hp.len; omega), List.getElem?_eq_getElem (by have := hq.len; omega)] at this
        rw [List.getElem?_eq_getElem (by have := hp.len; omega), List.getElem?_eq_getElem (by have := hq.len; omega)]
        simpa using this
      · rfl
    rw [ht] at h0
    have : 0 < cn N (preF φ (q.take j ++ [false])) := (cn_pos N _).2 ⟨bt q, fun i hi => bt_out (by have := hq.len; omega), by unfold preF; rw [mix_self h2]; exact hq.sat⟩
    omega
  have hall : ∀ n, n ≤ N → ∀ i, i < n → bt p i = bt q i := by
    intro n
    induction n with
    | zero => intro _ i hi; omega
    | succ n ih =>
      intro hn i hi
      have ih' := ih (by omega)
      by_cases e : i = n
      · subst e
        cases h1 : bt p i with
        | true =>
          cases h2 : bt q i with
          | true => rfl
          | false => exact (key p q hp hq i (by omega) ih' h1 h2).elim
        | false =>
          cases h2 : bt q i with
          | true => exact (key q p hq hp i (by omega) (fun k hk => (ih' k hk).symm) h2 h1).elim
          | false => rfl
      · exact ih' i (by omega)
  rw [tab_bt p, tab_bt q, hp.len, hq.len]
  exact tab_congr (fun i hi => hall N (Nat.le_refl _) i hi)
/-! ### numbers, the first variable first -/
def valN : Nat → (Nat → Bool) → Nat
  | 0, _ => 0
  | N + 1, g => 2 * valN N g + (if g N = true then 1 else 0)
theorem valN_lt : ∀ (N : Nat) (g : Nat → Bool), valN N g < 2 ^ N := by
  intro N
  induction N with
  | zero => intro g; simp [valN]
  | succ N ih => intro g; have := ih g; simp only [valN]; rw [Nat.pow_succ]; split <;> omega
theorem valN_bit : ∀ (N : Nat) (g : Nat → Bool) (i : Nat), i < N → (valN N g).testBit (N - 1 - i) = g i := by
  intro N
  induction N with
  | zero => intro g i h; omega
  | succ N ih =>
    intro g i hi
    simp only [valN]
    by_cases e : i = N
    · subst e
      rw [show i + 1 - 1 - i = 0 by omega, Nat.testBit_zero]
      cases hg : g i with
      | true => simp
      | false => simp
    · rw [show N + 1 - 1 - i = (N - 1 - i) + 1 by omega, Nat.testBit_succ]
      have : (2 * valN N g + (if g N = true then 1 else 0)) / 2 = valN N g := by split <;> omega
      rw [this]; exact ih g i (by omega)
theorem valN_congr : ∀ (N : Nat) (g h : Nat → Bool), (∀ i, i < N → g i = h i) → valN N g = valN N h := by
  intro N
  induction N with
  | zero => intro g h _; rfl
  | succ N ih => intro g h e; simp only [valN]; rw [ih g h (fun i hi => e i (by omega)), e N (by omega)]
theorem valN_less : ∀ (N : Nat) (g h : Nat → Bool) (j : Nat), j < N → (∀ i, i < j → g i = h i) → g j = false → h j = true → valN N g < valN N h := by
  intro N
  induction N with
  | zero => intro g h j hj; omega
  | succ N ih =>
    intro g h j hj e h1 h2
    simp only [valN]
    by_cases ej : j = N
    · subst ej
      rw [valN_congr j g h e, h1, h2]; simp
    · have := ih g h j (by omega) e h1 h2
      split <;> split <;> omega
/-- the list of a number -/
def lstN (N k : Nat) : List Bool := tab N fun i => bitF (N - 1 - i) k
theorem lstN_len (N k : Nat) : (lstN N k).length = N := tab_len _ _
theorem valN_lst {N k : Nat} (hk : k < 2 ^ N) : valN N (bt (lstN N k)) = k := by
  apply Nat.eq_of_testBit_eq
  intro t
  by_cases ht : t < N
  · have := valN_bit N (bt (lstN N k)) (N - 1 - t) (by omega)
    rw [show N - 1 - (N - 1 - t) = t by omega] at this
    rw [this, lstN, bt_tab (by omega), bitF_eq, show N - 1 - (N - 1 - t) = t by omega]
  · have h1 : 2 ^ N ≤ 2 ^ t := Nat.pow_le_pow_right (by decide) (by omega)
    rw [Nat.testBit_lt_two_pow (by have := valN_lt N (bt (lstN N k)); omega), Nat.testBit_lt_two_pow (by omega)]
theorem lst_valN {N : Nat} {f : As} (hf : ∀ j, N ≤ j → f j = false) : bt (lstN N (valN N f)) = f := by
  funext j
  by_cases hj : j < N
  · rw [lstN, bt_tab hj, bitF_eq, valN_bit N f j hj]
  · rw [bt_out (by rw [lstN_len]; omega), hf j (by omega)]
theorem first_wit {φ : As → Bool} {N k : Nat} (hk : k < 2 ^ N) (h1 : φ (bt (lstN N k)) = true) (h0 : ∀ k', k' < k → φ (bt (lstN N k')) = false) : WitP φ N (lstN N k) := by
  refine ⟨lstN_len N k, h1, fun j hj hb => ?_⟩
  apply Classical.byContradiction
  intro hc
  obtain ⟨f, g1, g2⟩ := (cn_pos N _).1 (Nat.pos_of_ne_zero hc)
  unfold preF at g2
  obtain ⟨F, hF⟩ : ∃ F, F = mixA ((lstN N k).take j ++ [false]) f := ⟨_, rfl⟩
  rw [← hF] at g2
  have hl : ((lstN N k).take j).length = j := by rw [List.length_take, lstN_len]; omega
  have hF0 : ∀ i, N ≤ i → F i = false := fun i hi => by
    rw [hF, mixA_snoc]; unfold mixA; rw [hl, if_neg (by omega), upd_ne (by omega)]; exact g1 i hi
  have hlt : valN N F < k := by
    rw [← valN_lst hk]
    refine valN_less N F _ j hj (fun i hi => ?_) ?_ hb
    · rw [hF, mixA_snoc]; unfold mixA; rw [hl, if_pos hi, bt_take hi]
    · rw [hF, mixA_snoc]; unfold mixA; rw [hl, if_neg (by omega), upd_self]
  have := h0 _ hlt
  rw [lst_valN hF0, g2] at this
  cases this
theorem none_wit {φ : As → Bool} {N : Nat} (h0 : ∀ k', k' < 2 ^ N → φ (bt (lstN N k')) = false) : cn N φ = 0 := by
  apply Classical.byContradiction
  intro hc
  obtain ⟨f, g1, g2⟩ := (cn_pos N _).1 (Nat.pos_of_ne_zero hc)
  have := h0 _ (valN_lt N f)
  rw [lst_valN g1, g2] at this
  cases this
theorem WitP.pos {φ : As → Bool} {N : Nat} {p : List Bool} (h : WitP φ N p) : 0 < cn N φ := (cn_pos N φ).2 ⟨bt p, fun j hj => bt_out (by have := h.len; omega), h.sat⟩
end Go.Proofs.Ytlealdhgajomhaa
namespace Go.Proofs.Ytlealdhgajomhaa
open Go.AI
set_option linter.unusedVariables false
set_option linter.unusedSimpArgs false

/-- what a Witness comes to -/
def WOut (φ : As → Bool) (N : Nat) (r : Value) (σ' : St) : Prop := (cn N φ = 0 ∧ r = .tuple #[.slice none 0 0, .bool false]) ∨ (∃ p sv, WitP φ N p ∧ r = .tuple #[sv, .bool true] ∧ SB σ' sv p)
theorem refWitness_spec {σ : St} {a : Value} {φ : As → Bool} (n : Int) (ha : IsD 0 σ.next σ a φ) (hF : Fr σ) : wpc Try.prog 41 #[a, .int .i64 n] σ fun r σ' => WOut φ (bnd n) r σ' ∧ EX σ σ' := by
  obtain ⟨o1, k1, c1, i1, rfl⟩ := ha.open
  refine body_go Try.func41 rfl ?_
  have hr := Try.results41
  have hb := bnd_le n
  obtain ⟨N, hN⟩ : ∃ N, N = bnd n := ⟨_, rfl⟩
  simp only [c_seq, RUNA, RUNB, Nat.reduceAdd, Nat.reduceMod, Nat.reduceDiv, Nat.reduceSub, Nat.reduceMul, Nat.reduceEqDiff, Nat.reduceBEq, Nat.reduceLeDiff, Int.reduceToNat, fillS, wantG, vBox, Value.cells, one, putAt, TYA, hr, k_max2, max2_i, k_min2, min2_i, bnd_eq]
  rw [← hN] at hb ⊢
  have h2 : 2 ^ N ≤ 2 ^ 10 := Nat.pow_le_pow_right (by decide) hb
  refine loop_go (fun m S τ => S.at 1 = .int .i64 (N : Nat) ∧ S.at 2 = .pointer (some ⟨σ.next, 0, none⟩) ∧ EX σ τ ∧ Fr τ ∧ σ.next < τ.next ∧ τ.row σ.next = some ([.slice o1 k1 c1, .int .i64 i1], boxMeta) ∧
    ∃ k : Nat, S.at 6 = .int .i64 k ∧ k ≤ 2 ^ N ∧ m = 2 ^ N - k ∧ ∀ k', k' < k → φ (bt (lstN N k')) = false) (2 ^ N) ?_ ?_
  · simp only [c_seq, RUNA, RUNB, Nat.reduceAdd, Nat.reduceMod, Nat.reduceDiv, Nat.reduceSub, Nat.reduceMul, Nat.reduceEqDiff, Nat.reduceBEq, Nat.reduceLeDiff, Int.reduceToNat, fillS, wantG, vBox, Value.cells, one, putAt]
    refine ⟨?_, by repeat first | assumption | refine Fr.more ?_ _ | refine Fr.put ?_ _ _, by omega, 0, rfl, Nat.zero_le _, rfl, fun k' h => by omega⟩
    repeat first | assumption | exact EXn.refl _ _ | refine EXn.more ?_ _ | refine EXn.put ?_ (by omega) _ | refine EX.trans ?_ (by assumption)
  rintro _ S τ ⟨s1, s2, hE, hF', hx, r0, k, s6, hk, rfl, hall⟩
  have z4 : (0 : Int) ≤ ((N : Nat) : Int) := by omega
  have hsh := shl10 hb
  have nn := hE.next
  by_cases hlt : k < 2 ^ N
  · have hd : decide ((k : Int) < ((2 ^ N : Nat) : Int)) = true := by simp only [decide_eq_true_eq]; exact Int.ofNat_lt.2 hlt
    have hw : IntKind.i64.wrap ((k : Int) + 1) = ((k + 1 : Nat) : Int) := by rw [wrap64 (by omega) (by omega)]; rfl
    simp only [c_seq, RUNA, RUNB, Nat.reduceAdd, Nat.reduceMod, Nat.reduceDiv, Nat.reduceSub, Nat.reduceMul, Nat.reduceEqDiff, Nat.reduceBEq, Nat.reduceLeDiff, Int.reduceToNat, fillS, wantG, vBox, Value.cells, one, putAt, TYA, s1, s2, s6, n_shl z4, hsh, hd, mkB N (fun i => bitF (N - 1 - i) k) (by omega)]
    obtain ⟨V, hV⟩ : ∃ V, V = τ.next + 5 := ⟨_, rfl⟩
    refine loop_go (fun m S τ' => S.at 1 = .int .i64 (N : Nat) ∧ S.at 2 = .pointer (some ⟨σ.next, 0, none⟩) ∧ S.at 6 = .int .i64 k ∧ S.at 7 = .slice (some ⟨V, 0, none⟩) N N ∧ EX τ τ' ∧ Fr τ' ∧ V < τ'.next ∧
      ∃ i : Nat, S.at 8 = .int .i64 i ∧ i ≤ N ∧ m = N - i ∧ τ'.row V = some ((tab N (half i (fun i => bitF (N - 1 - i) k) fun _ => false)).map Value.bool, rowMeta 1)) N ?_ ?_
    · subst hV
      simp only [c_seq, RUNA, RUNB, Nat.reduceAdd, Nat.reduceMod, Nat.reduceDiv, Nat.reduceSub, Nat.reduceMul, Nat.reduceEqDiff, Nat.reduceBEq, Nat.reduceLeDiff, Int.reduceToNat, fillS, wantG, vBox, Value.cells, one, putAt, s1, s2, s6]
      refine ⟨?_, by repeat first | assumption | refine Fr.more ?_ _ | refine Fr.put ?_ _ _, by omega, 0, rfl, by omega, by omega, rfl⟩
      repeat first | assumption | exact EXn.refl _ _ | refine EXn.more ?_ _ | refine EXn.put ?_ (by omega) _ | refine EX.trans ?_ (by assumption)
    clear s1 s2 s6
    rintro _ S τ' ⟨s1, s2, s6, s7, hE', hF2, hVn, i, s8, hi, rfl, rv⟩
    have nn' := hE'.next
    by_cases hil : i < N
    · have hd' : decide ((i : Int) < ((N : Nat) : Int)) = true := by simp; omega
      have hw' : IntKind.i64.wrap ((i : Int) + 1) = ((i + 1 : Nat) : Int) := by rw [wrap64 (by omega) (by omega)]; rfl
      have w1 : IntKind.i64.wrap ((N : Int) - 1) = ((N - 1 : Nat) : Int) := by rw [wrap64 (by omega) (by omega)]; omega
      have w2 : IntKind.i64.wrap (((N - 1 : Nat) : Int) - (i : Int)) = ((N - 1 - i : Nat) : Int) := by rw [wrap64 (by omega) (by omega)]; omega
      have y1 : (0 : Int) ≤ ((N - 1 - i : Nat) : Int) := Int.natCast_nonneg _
      have y2 : (0 : Int) ≤ (i : Int) := by omega
      have y3 : (i : Int) < (N : Int) := by omega
      have hs := shr_nat (n := k) (i := N - 1 - i) (by omega)
      have hlt2 : k / 2 ^ (N - 1 - i) < 2 ^ 62 := Nat.lt_of_le_of_lt (Nat.div_le_self _ _) (by omega)
      have han := and_one hlt2
      have hle : i + 1 ≤ ((tab N (half i (fun i => bitF (N - 1 - i) k) fun _ => false)).map Value.bool).length := by rw [List.length_map, tab_len]; omega
      simp only [c_seq, RUNA, RUNB, Nat.reduceAdd, Nat.reduceMod, Nat.reduceDiv, Nat.reduceSub, Nat.reduceMul, Nat.reduceEqDiff, Nat.reduceBEq, Nat.reduceLeDiff, Int.reduceToNat, fillS, wantG, vBox, Value.cells, one, putAt, TYA, s1, s2, s6, s7, s8, hd', w1, w2, n_shr y1, hs, han, ia43 y2 y3, rv, hle, hw']
      refine ⟨N - (i + 1), by omega, ?_, by repeat first | assumption | refine Fr.more ?_ _ | refine Fr.put ?_ _ _, by omega, i + 1, rfl, by omega, rfl, ?_⟩
      · repeat first | assumption | exact EXn.refl _ _ | refine EXn.more ?_ _ | refine EXn.put ?_ (by omega) _ | refine EX.trans ?_ (by assumption)
      · rw [← half_set, List.map_set]; rfl
    · have hd' : decide ((i : Int) < ((N : Nat) : Int)) = false := by simp; omega
      obtain rfl : i = N := by omega
      rw [half_N] at rv
      have exx : EX σ τ' := EX.trans hE hE'
      have r0' := (hE'.row σ.next hx).trans r0
      have sb : SB τ' (.slice (some ⟨V, 0, none⟩) i i) (lstN i k) := ⟨some ⟨V, 0, none⟩, i, by rw [lstN_len], fun _ => ⟨V, 0, _, _, rfl, hVn, rv, by rw [List.drop_zero, List.take_of_length_le (by simp [lstN_len, tab_len])]; rfl⟩⟩
      simp only [c_seq, RUNA, RUNB, Nat.reduceAdd, Nat.reduceMod, Nat.reduceDiv, Nat.reduceSub, Nat.reduceMul, Nat.reduceEqDiff, Nat.reduceBEq, Nat.reduceLeDiff, Int.reduceToNat, fillS, wantG, vBox, Value.cells, one, putAt, TYA, s1, s2, s6, s7, s8, hd', r0']
      refine wpc_mono (refEvalC (ha.mono ?_) (sb.mono ?_)) ?_
      · repeat first | assumption | exact EXn.refl _ _ | refine EXn.more ?_ _ | refine EXn.put ?_ (by omega) _ | refine EX.trans ?_ (by assumption)
      · repeat first | assumption | exact EXn.refl _ _ | refine EXn.more ?_ _ | refine EXn.put ?_ (by omega) _ | refine EX.trans ?_ (by assumption)
      rintro r σ2 ⟨rfl, hE2⟩
      have n2 := hE2.next
      simp only [next_more] at n2
      have e2' : EX τ' σ2 := EX.trans (((EX.refl τ').more _).more _) hE2
      have e2 : EX σ σ2 := EX.trans exx e2'
      have r2 := (e2'.row σ.next (by omega)).trans r0'
      have f2 := e2.fr hF
      cases hp : φ (bt (lstN i k)) with
      | true =>
        simp only [c_seq, RUNA, RUNB, Nat.reduceAdd, Nat.reduceMod, Nat.reduceDiv, Nat.reduceSub, Nat.reduceMul, Nat.reduceEqDiff, Nat.reduceBEq, Nat.reduceLeDiff, Int.reduceToNat, fillS, wantG, vBox, Value.cells, one, putAt, TYA, s1, s2, s6, s7, s8, hr]
        refine ⟨Or.inr ⟨lstN i k, _, first_wit hlt hp hall, rfl, sb.mono ?_⟩, ?_⟩
        · repeat first | assumption | exact EXn.refl _ _ | refine EXn.more ?_ _ | refine EXn.put ?_ (by omega) _ | refine EX.trans ?_ (by assumption)
        · repeat first | assumption | exact EXn.refl _ _ | refine EXn.more ?_ _ | refine EXn.put ?_ (by omega) _ | refine EX.trans ?_ (by assumption)
      | false =>
        simp only [c_seq, RUNA, RUNB, Nat.reduceAdd, Nat.reduceMod, Nat.reduceDiv, Nat.reduceSub, Nat.reduceMul, Nat.reduceEqDiff, Nat.reduceBEq, Nat.reduceLeDiff, Int.reduceToNat, fillS, wantG, vBox, Value.cells, one, putAt, TYA, s1, s2, s6, s7, s8, hw]
        refine ⟨2 ^ i - (k + 1), by omega, ?_, by repeat first | assumption | refine Fr.more ?_ _ | refine Fr.put ?_ _ _, by omega, r2, k + 1, rfl, by omega, rfl, fun k' h => ?_⟩
        · repeat first | assumption | exact EXn.refl _ _ | refine EXn.more ?_ _ | refine EXn.put ?_ (by omega) _ | refine EX.trans ?_ (by assumption)
        · by_cases e : k' = k
          · rw [e]; exact hp
          · exact hall k' (by omega)
  · have hd : decide ((k : Int) < ((2 ^ N : Nat) : Int)) = false := by simp only [decide_eq_false_iff_not]; intro h; exact hlt (Int.ofNat_lt.1 h)
    have hk1 : k = 2 ^ N := by omega
    simp only [c_seq, RUNA, RUNB, Nat.reduceAdd, Nat.reduceMod, Nat.reduceDiv, Nat.reduceSub, Nat.reduceMul, Nat.reduceEqDiff, Nat.reduceBEq, Nat.reduceLeDiff, Int.reduceToNat, fillS, wantG, vBox, Value.cells, one, putAt, TYA, s1, s2, s6, n_shl z4, hsh, hd, hr]
    refine ⟨Or.inl ⟨none_wit (fun k' h => hall k' (by omega)), rfl⟩, ?_⟩
    repeat first | assumption | exact EXn.refl _ _ | refine EXn.more ?_ _ | refine EXn.put ?_ (by omega) _ | refine EX.trans ?_ (by assumption)
theorem bnd_nat {N : Nat} (h : N ≤ 10) : bnd (N : Int) = N := by unfold bnd; rw [if_neg (by omega), if_neg (by omega)]; rfl
theorem tab_snoc {N : Nat} {p : List Bool} {b : Bool} (h : p.length < N) : (tab N (bt p)).set p.length b = tab N (bt (p ++ [b])) := by
  rw [tab_set]
  refine tab_congr (fun i hi => ?_)
  by_cases e : i = p.length
  · rw [if_pos e, e, bt_app_last]
  · rw [if_neg e]
    by_cases hl : i < p.length
    · rw [bt_app_lt hl]
    · rw [bt_out (by omega), bt_out (by simp; omega)]
theorem tab_false {N : Nat} {p : List Bool} (h : p.length < N) : tab N (bt p) = tab N (bt (p ++ [false])) := by
  refine tab_congr (fun i hi => ?_)
  by_cases hl : i < p.length
  · rw [bt_app_lt hl]
  · rw [bt_out (by omega)]
    by_cases e : i = p.length
    · rw [e, bt_app_last]
    · rw [bt_out (by simp; omega)]
/-- what the loop over the variables keeps -/
def wtI (φ : As → Bool) (N n0 V : Nat) (S : Slots) (τ : St) (m : Nat) : Prop := ∃ (p : List Bool) (v w : Value) (lo hi : Nat), S.at 18 = .int .i64 (p.length : Nat) ∧ p.length ≤ N ∧ m = N - p.length ∧ τ.row n0 = some ([v, w], boxMeta) ∧ τ.row V = some ((tab N (bt p)).map Value.bool, rowMeta 1) ∧
  IsD lo hi τ (.agg #[v, w]) (preF φ p) ∧ hi ≤ τ.next ∧ (hi ≤ n0 ∨ V < lo) ∧ 0 < cn N (preF φ p) ∧ ∀ j, j < p.length → bt p j = true → cn N (preF φ (p.take j ++ [false])) = 0
theorem upd_updI {φ : As → Bool} {p : List Bool} {b : Bool} : (fun f => preF φ p (updI f (p.length : Nat) b)) = preF φ (p ++ [b]) := by
  rw [preF_snoc]; funext f; rw [updI_nat]
set_option maxHeartbeats 2000000 in
theorem Witness_spec {σ : St} {a : Value} {φ : As → Bool} (n : Int) (ha : IsD 0 σ.next σ a φ) (hF : Fr σ) : wpc Try.prog 40 #[a, .int .i64 n] σ fun r σ' => WOut φ (bnd n) r σ' ∧ EX σ σ' := by
  obtain ⟨o1, k1, c1, i1, rfl⟩ := ha.open
  refine body_go Try.func40 rfl ?_
  have hr := Try.results40
  have hb := bnd_le n
  obtain ⟨N, hN⟩ : ∃ N, N = bnd n := ⟨_, rfl⟩
  simp only [c_seq, RUNA, RUNB, Nat.reduceAdd, Nat.reduceMod, Nat.reduceDiv, Nat.reduceSub, Nat.reduceMul, Nat.reduceEqDiff, Nat.reduceBEq, Nat.reduceLeDiff, Int.reduceToNat, fillS, wantG, vBox, Value.cells, one, putAt, TYA, hr]
  refine wpc_mono (bound_spec n _) ?_
  rintro r σ1 ⟨rfl, hE1⟩
  rw [← hN] at hb ⊢
  have n1 := hE1.next
  simp only [next_more, next_put] at n1
  have a1 : σ1.row σ.next = some ([.slice o1 k1 c1, .int .i64 i1], boxMeta) := by rw [hE1.row _ (by first | omega | (simp only [next_more, next_put] at *; omega))]; simp only [c_seq, RUNA, RUNB, Nat.reduceAdd, Nat.reduceMod, Nat.reduceDiv, Nat.reduceSub, Nat.reduceMul, Nat.reduceEqDiff, Nat.reduceBEq, Nat.reduceLeDiff, Int.reduceToNat, fillS, wantG, vBox, Value.cells, one, putAt]
  have e1 : EX σ σ1 := by repeat first | assumption | exact EXn.refl _ _ | refine EXn.more ?_ _ | refine EXn.put ?_ (by omega) _ | refine EX.trans ?_ (by assumption)
  have f1 := e1.fr hF
  simp only [c_seq, RUNA, RUNB, Nat.reduceAdd, Nat.reduceMod, Nat.reduceDiv, Nat.reduceSub, Nat.reduceMul, Nat.reduceEqDiff, Nat.reduceBEq, Nat.reduceLeDiff, Int.reduceToNat, fillS, wantG, vBox, Value.cells, one, putAt, TYA, a1]
  refine wpc_mono (Count_spec (N : Nat) (ha.mono ?_) (by repeat first | assumption | refine Fr.more ?_ _ | refine Fr.put ?_ _ _)) ?_
  · repeat first | assumption | exact EXn.refl _ _ | refine EXn.more ?_ _ | refine EXn.put ?_ (by omega) _ | refine EX.trans ?_ (by assumption)
  rintro r σ2 ⟨rfl, hE2⟩
  rw [bnd_nat hb]
  have n2 := hE2.next
  simp only [next_more] at n2
  have a2 : σ2.row σ.next = some ([.slice o1 k1 c1, .int .i64 i1], boxMeta) := by rw [hE2.row _ (by first | omega | (simp only [next_more, next_put] at *; omega))]; exact a1
  have e2 : EX σ σ2 := by repeat first | assumption | exact EXn.refl _ _ | refine EXn.more ?_ _ | refine EXn.put ?_ (by omega) _ | refine EX.trans ?_ (by assumption)
  have f2 := e2.fr hF
  by_cases hc : cn N φ = 0
  · have hd : (((cn N φ : Nat) : Int) == 0) = true := by simp [hc]
    simp only [c_seq, RUNA, RUNB, Nat.reduceAdd, Nat.reduceMod, Nat.reduceDiv, Nat.reduceSub, Nat.reduceMul, Nat.reduceEqDiff, Nat.reduceBEq, Nat.reduceLeDiff, Int.reduceToNat, fillS, wantG, vBox, Value.cells, one, putAt, TYA, hd, hr]
    refine ⟨Or.inl ⟨hc, rfl⟩, ?_⟩
    repeat first | assumption | exact EXn.refl _ _ | refine EXn.more ?_ _ | refine EXn.put ?_ (by omega) _ | refine EX.trans ?_ (by assumption)
  have hd : (((cn N φ : Nat) : Int) == 0) = false := by simp; omega
  simp only [c_seq, RUNA, RUNB, Nat.reduceAdd, Nat.reduceMod, Nat.reduceDiv, Nat.reduceSub, Nat.reduceMul, Nat.reduceEqDiff, Nat.reduceBEq, Nat.reduceLeDiff, Int.reduceToNat, fillS, wantG, vBox, Value.cells, one, putAt, TYA, hd, mkB N (bt []) (by omega)]
  obtain ⟨V, hV⟩ : ∃ V, V = σ2.next + 1 := ⟨_, rfl⟩
  refine loop_go (fun m S τ => S.at 1 = .int .i64 (N : Nat) ∧ S.at 2 = .pointer (some ⟨σ.next, 0, none⟩) ∧ S.at 6 = .slice (some ⟨V, 0, none⟩) N N ∧ S.at 17 = .int .i64 (N : Nat) ∧ EX σ τ ∧ Fr τ ∧ σ2.next + 3 ≤ τ.next ∧ wtI φ N σ.next V S τ m) N ?_ ?_
  · subst hV
    have q1 : ¬ σ.next = σ2.next + 1 := by omega
    simp only [c_seq, RUNA, RUNB, Nat.reduceAdd, Nat.reduceMod, Nat.reduceDiv, Nat.reduceSub, Nat.reduceMul, Nat.reduceEqDiff, Nat.reduceBEq, Nat.reduceLeDiff, Int.reduceToNat, fillS, wantG, vBox, Value.cells, one, putAt]
    refine ⟨?_, by repeat first | assumption | refine Fr.more ?_ _ | refine Fr.put ?_ _ _, by omega, [], .slice o1 k1 c1, .int .i64 i1, 0, σ.next, by simp only [c_seq, RUNA, RUNB, Nat.reduceAdd, Nat.reduceMod, Nat.reduceDiv, Nat.reduceSub, Nat.reduceMul, Nat.reduceEqDiff, Nat.reduceBEq, Nat.reduceLeDiff, Int.reduceToNat, fillS, wantG, vBox, Value.cells, one, putAt]; rfl, Nat.zero_le _, rfl, by simp only [c_seq, RUNA, RUNB, Nat.reduceAdd, Nat.reduceMod, Nat.reduceDiv, Nat.reduceSub, Nat.reduceMul, Nat.reduceEqDiff, Nat.reduceBEq, Nat.reduceLeDiff, Int.reduceToNat, fillS, wantG, vBox, Value.cells, one, putAt, q1, a2], ?_, ?_, by first | omega | (simp only [next_more, next_put] at *; omega), Or.inl (Nat.le_refl _), ?_, fun j hj => by simp at hj⟩
    · repeat first | assumption | exact EXn.refl _ _ | refine EXn.more ?_ _ | refine EXn.put ?_ (by omega) _ | refine EX.trans ?_ (by assumption)
    · simp only [c_seq, RUNA, RUNB, Nat.reduceAdd, Nat.reduceMod, Nat.reduceDiv, Nat.reduceSub, Nat.reduceMul, Nat.reduceEqDiff, Nat.reduceBEq, Nat.reduceLeDiff, Int.reduceToNat, fillS, wantG, vBox, Value.cells, one, putAt]
      rw [← half_0]
      exact congrArg (List.map Value.bool) (tab_congr fun i _ => by simp [bt])
    · rw [preF_nil]
      refine ha.un ?_
      repeat first | assumption | exact UN.refl _ _ _ | refine UN.more ?_ _ | refine UN.put ?_ (by omega) _ | refine UN.ex (by assumption) ?_ (by first | omega | (simp only [next_more, next_put]; omega)) | refine UN.exb (by assumption) ?_ (by first | omega | (simp only [next_more, next_put]; omega)) (by omega)
    · rw [preF_nil]; omega
  rintro m S τ ⟨s1, s2, s6, s17, hE, hF', hx, p, v, w, lo, hi, s18, hpl, rfl, rd, rv, hD, hhi, hcs, hpos, hleast⟩
  have nn := hE.next
  have hVn : V < τ.next := by omega
  by_cases hlt : p.length < N
  · have hd1 : decide ((p.length : Int) < ((N : Nat) : Int)) = true := by simp; omega
    have hw : IntKind.i64.wrap ((p.length : Int) + 1) = ((p.length + 1 : Nat) : Int) := by rw [wrap64 (by omega) (by omega)]; rfl
    obtain ⟨od, kd, cd', id', ed⟩ := hD.open
    simp only [Value.agg.injEq, Array.mk.injEq, List.cons.injEq, and_true] at ed
    obtain ⟨rfl, rfl⟩ := ed
    have hD0 : IsD 0 τ.next τ (.agg #[.slice od kd cd', .int .i64 id']) (preF φ p) := (hD.weak (Nat.zero_le _)).hi hhi
    simp only [c_seq, RUNA, RUNB, Nat.reduceAdd, Nat.reduceMod, Nat.reduceDiv, Nat.reduceSub, Nat.reduceMul, Nat.reduceEqDiff, Nat.reduceBEq, Nat.reduceLeDiff, Int.reduceToNat, fillS, wantG, vBox, Value.cells, one, putAt, TYA, s1, s2, s6, s17, s18, hd1, rd]
    refine wpc_mono (Restrict_spec (i := (p.length : Nat)) (x := false) (hD0.mono ?_) (by repeat first | assumption | refine Fr.more ?_ _ | refine Fr.put ?_ _ _)) ?_
    · repeat first | assumption | exact EXn.refl _ _ | refine EXn.more ?_ _ | refine EXn.put ?_ (by omega) _ | refine EX.trans ?_ (by assumption)
    rintro r σ3 ⟨hD3, hE3⟩
    have n3 := hE3.next
    simp only [next_more] at n3 hD3
    rw [upd_updI] at hD3
    have e3 : EX τ σ3 := by repeat first | assumption | exact EXn.refl _ _ | refine EXn.more ?_ _ | refine EXn.put ?_ (by omega) _ | refine EX.trans ?_ (by assumption)
    have f3 := e3.fr hF'
    obtain ⟨o3, k3, c3, i3, rfl⟩ := hD3.open
    simp only [c_seq, RUNA, RUNB, Nat.reduceAdd, Nat.reduceMod, Nat.reduceDiv, Nat.reduceSub, Nat.reduceMul, Nat.reduceEqDiff, Nat.reduceBEq, Nat.reduceLeDiff, Int.reduceToNat, fillS, wantG, vBox, Value.cells, one, putAt, TYA, s1, s2, s6, s17, s18]
    refine wpc_mono (Count_spec (N : Nat) (IsD.hi (IsD.weak (hD3.un ?_) (Nat.zero_le _)) (by first | omega | (simp only [next_more, next_put] at *; omega))) (by repeat first | assumption | refine Fr.more ?_ _ | refine Fr.put ?_ _ _)) ?_
    · repeat first | assumption | exact UN.refl _ _ _ | refine UN.more ?_ _ | refine UN.put ?_ (by omega) _ | refine UN.ex (by assumption) ?_ (by first | omega | (simp only [next_more, next_put]; omega)) | refine UN.exb (by assumption) ?_ (by first | omega | (simp only [next_more, next_put]; omega)) (by omega)
    rintro r σ4 ⟨rfl, hE4⟩
    rw [bnd_nat hb]
    have n4 := hE4.next
    simp only [next_more, next_put] at n4
    have u4 : UN (τ.next + 1 + 2 + 5) σ3.next σ3 σ4 := UN.ex hE4 (by repeat first | assumption | exact UN.refl _ _ _ | refine UN.more ?_ _ | refine UN.put ?_ (by omega) _ | refine UN.ex (by assumption) ?_ (by first | omega | (simp only [next_more, next_put]; omega)) | refine UN.exb (by assumption) ?_ (by first | omega | (simp only [next_more, next_put]; omega)) (by omega)) (by first | omega | (simp only [next_more, next_put] at *; omega))
    have e4 : EX τ σ4 := by repeat first | assumption | exact EXn.refl _ _ | refine EXn.more ?_ _ | refine EXn.put ?_ (by omega) _ | refine EX.trans ?_ (by assumption)
    have ud : UN lo hi τ σ4 := UN.ex e4 (UN.refl _ _ _) hhi
    have ex4 : EX σ σ4 := EX.trans hE e4
    have f4 := e4.fr hF'
    have l4 : σ4.row (τ.next + 6) = some ([.slice o3 k3 c3, .int .i64 i3], boxMeta) := by rw [hE4.row _ (by first | omega | (simp only [next_more, next_put] at *; omega))]; simp only [c_seq, RUNA, RUNB, Nat.reduceAdd, Nat.reduceMod, Nat.reduceDiv, Nat.reduceSub, Nat.reduceMul, Nat.reduceEqDiff, Nat.reduceBEq, Nat.reduceLeDiff, Int.reduceToNat, fillS, wantG, vBox, Value.cells, one, putAt]
    have rd4 := (e4.row σ.next (by omega)).trans rd
    have rv4 := (e4.row V hVn).trans rv
    have hlen1 : ∀ b : Bool, (p ++ [b]).length = p.length + 1 := fun b => by simp
    have htk : ∀ (b : Bool) (j : Nat), j ≤ p.length → (p ++ [b]).take j = p.take j := fun b j hj => by rw [List.take_append_of_le_length hj]
    have hno : ¬ V = σ.next := by omega
    have hno' : ¬ σ.next = V := by omega
    by_cases hpz : 0 < cn N (preF φ (p ++ [false]))
    · have hd2 : decide ((0 : Int) < ((cn N (preF φ (p ++ [false])) : Nat) : Int)) = true := by simp; omega
      simp only [c_seq, RUNA, RUNB, Nat.reduceAdd, Nat.reduceMod, Nat.reduceDiv, Nat.reduceSub, Nat.reduceMul, Nat.reduceEqDiff, Nat.reduceBEq, Nat.reduceLeDiff, Int.reduceToNat, fillS, wantG, vBox, Value.cells, one, putAt, TYA, s1, s2, s6, s17, s18, hd2, l4, rd4, hw]
      refine ⟨N - (p.length + 1), by omega, ?_, by repeat first | assumption | refine Fr.more ?_ _ | refine Fr.put ?_ _ _, by omega, p ++ [false], .slice o3 k3 c3, .int .i64 i3, _, σ3.next, by simp only [c_seq, RUNA, RUNB, Nat.reduceAdd, Nat.reduceMod, Nat.reduceDiv, Nat.reduceSub, Nat.reduceMul, Nat.reduceEqDiff, Nat.reduceBEq, Nat.reduceLeDiff, Int.reduceToNat, fillS, wantG, vBox, Value.cells, one, putAt, hlen1], by rw [hlen1]; omega, by rw [hlen1], by simp only [c_seq, RUNA, RUNB, Nat.reduceAdd, Nat.reduceMod, Nat.reduceDiv, Nat.reduceSub, Nat.reduceMul, Nat.reduceEqDiff, Nat.reduceBEq, Nat.reduceLeDiff, Int.reduceToNat, fillS, wantG, vBox, Value.cells, one, putAt], ?_, IsD.weak (lo' := V + 1) (hD3.un ?_) (by omega), by first | omega | (simp only [next_more, next_put] at *; omega), Or.inr (Nat.lt_succ_self _), hpz, fun j hj hbj => ?_⟩
      · repeat first | assumption | exact EXn.refl _ _ | refine EXn.more ?_ _ | refine EXn.put ?_ (by omega) _ | refine EX.trans ?_ (by assumption)
      · rw [← tab_false hlt]
        simp only [c_seq, RUNA, RUNB, Nat.reduceAdd, Nat.reduceMod, Nat.reduceDiv, Nat.reduceSub, Nat.reduceMul, Nat.reduceEqDiff, Nat.reduceBEq, Nat.reduceLeDiff, Int.reduceToNat, fillS, wantG, vBox, Value.cells, one, putAt, hno, rv4]
      · repeat first | assumption | exact UN.refl _ _ _ | refine UN.more ?_ _ | refine UN.put ?_ (by omega) _ | refine UN.ex (by assumption) ?_ (by first | omega | (simp only [next_more, next_put]; omega)) | refine UN.exb (by assumption) ?_ (by first | omega | (simp only [next_more, next_put]; omega)) (by omega)
      · rw [hlen1] at hj
        by_cases e : j = p.length
        · rw [e, bt_app_last] at hbj; cases hbj
        · rw [bt_app_lt (by omega)] at hbj
          rw [htk _ j (by omega)]
          exact hleast j (by omega) hbj
    · have hd2 : decide ((0 : Int) < ((cn N (preF φ (p ++ [false])) : Nat) : Int)) = false := by simp; omega
      have y2 : (0 : Int) ≤ (p.length : Int) := by omega
      have y3 : (p.length : Int) < (N : Int) := by omega
      have hle : p.length + 1 ≤ ((tab N (bt p)).map Value.bool).length := by rw [List.length_map, tab_len]; omega
      simp only [c_seq, RUNA, RUNB, Nat.reduceAdd, Nat.reduceMod, Nat.reduceDiv, Nat.reduceSub, Nat.reduceMul, Nat.reduceEqDiff, Nat.reduceBEq, Nat.reduceLeDiff, Int.reduceToNat, fillS, wantG, vBox, Value.cells, one, putAt, TYA, s1, s2, s6, s17, s18, hd2, ia43 y2 y3, rv4, hle, hno', rd4]
      refine wpc_mono (Restrict_spec (i := (p.length : Nat)) (x := true) (IsD.hi (IsD.weak (hD.un ?_) (Nat.zero_le _)) (by first | omega | (simp only [next_more, next_put] at *; omega))) (by repeat first | assumption | refine Fr.more ?_ _ | refine Fr.put ?_ _ _)) ?_
      · repeat first | assumption | exact UN.refl _ _ _ | refine UN.more ?_ _ | refine UN.put ?_ (by omega) _ | refine UN.ex (by assumption) ?_ (by first | omega | (simp only [next_more, next_put]; omega)) | refine UN.exb (by assumption) ?_ (by first | omega | (simp only [next_more, next_put]; omega)) (by omega)
      rintro r σ5 ⟨hD5, hE5⟩
      have n5 := hE5.next
      simp only [next_more, next_put] at n5 hD5
      rw [upd_updI] at hD5
      obtain ⟨o5, k5, c5, i5, rfl⟩ := hD5.open
      have rd5 : σ5.row σ.next = some ([.slice od kd cd', .int .i64 id'], boxMeta) := by rw [hE5.row _ (by first | omega | (simp only [next_more, next_put] at *; omega))]; simp only [c_seq, RUNA, RUNB, Nat.reduceAdd, Nat.reduceMod, Nat.reduceDiv, Nat.reduceSub, Nat.reduceMul, Nat.reduceEqDiff, Nat.reduceBEq, Nat.reduceLeDiff, Int.reduceToNat, fillS, wantG, vBox, Value.cells, one, putAt, hno', rd4]
      have rv5 : σ5.row V = some ((tab N (bt (p ++ [true]))).map Value.bool, rowMeta 1) := by
        rw [hE5.row _ (by first | omega | (simp only [next_more, next_put] at *; omega)), ← tab_snoc hlt, List.map_set]; simp only [c_seq, RUNA, RUNB, Nat.reduceAdd, Nat.reduceMod, Nat.reduceDiv, Nat.reduceSub, Nat.reduceMul, Nat.reduceEqDiff, Nat.reduceBEq, Nat.reduceLeDiff, Int.reduceToNat, fillS, wantG, vBox, Value.cells, one, putAt]
      have e5 : EX σ σ5 := by repeat first | assumption | exact EXn.refl _ _ | refine EXn.more ?_ _ | refine EXn.put ?_ (by omega) _ | refine EX.trans ?_ (by assumption)
      have f5 := e5.fr hF
      simp only [c_seq, RUNA, RUNB, Nat.reduceAdd, Nat.reduceMod, Nat.reduceDiv, Nat.reduceSub, Nat.reduceMul, Nat.reduceEqDiff, Nat.reduceBEq, Nat.reduceLeDiff, Int.reduceToNat, fillS, wantG, vBox, Value.cells, one, putAt, TYA, s1, s2, s6, s17, s18, rd5, hw]
      have hpt : 0 < cn N (preF φ (p ++ [true])) := by
        have hh := cn_half N p.length (preF φ p) hlt
        rw [← preF_snoc, ← preF_snoc] at hh
        omega
      refine ⟨N - (p.length + 1), by omega, ?_, by repeat first | assumption | refine Fr.more ?_ _ | refine Fr.put ?_ _ _, by omega, p ++ [true], .slice o5 k5 c5, .int .i64 i5, _, σ5.next, by simp only [c_seq, RUNA, RUNB, Nat.reduceAdd, Nat.reduceMod, Nat.reduceDiv, Nat.reduceSub, Nat.reduceMul, Nat.reduceEqDiff, Nat.reduceBEq, Nat.reduceLeDiff, Int.reduceToNat, fillS, wantG, vBox, Value.cells, one, putAt, hlen1], by rw [hlen1]; omega, by rw [hlen1], by simp only [c_seq, RUNA, RUNB, Nat.reduceAdd, Nat.reduceMod, Nat.reduceDiv, Nat.reduceSub, Nat.reduceMul, Nat.reduceEqDiff, Nat.reduceBEq, Nat.reduceLeDiff, Int.reduceToNat, fillS, wantG, vBox, Value.cells, one, putAt], by simp only [c_seq, RUNA, RUNB, Nat.reduceAdd, Nat.reduceMod, Nat.reduceDiv, Nat.reduceSub, Nat.reduceMul, Nat.reduceEqDiff, Nat.reduceBEq, Nat.reduceLeDiff, Int.reduceToNat, fillS, wantG, vBox, Value.cells, one, putAt, hno, rv5], IsD.weak (lo' := V + 1) (hD5.un ?_) (by omega), by first | omega | (simp only [next_more, next_put] at *; omega), Or.inr (Nat.lt_succ_self _), hpt, fun j hj hbj => ?_⟩
      · repeat first | assumption | exact EXn.refl _ _ | refine EXn.more ?_ _ | refine EXn.put ?_ (by omega) _ | refine EX.trans ?_ (by assumption)
      · repeat first | assumption | exact UN.refl _ _ _ | refine UN.more ?_ _ | refine UN.put ?_ (by omega) _ | refine UN.ex (by assumption) ?_ (by first | omega | (simp only [next_more, next_put]; omega)) | refine UN.exb (by assumption) ?_ (by first | omega | (simp only [next_more, next_put]; omega)) (by omega)
      · rw [hlen1] at hj
        by_cases e : j = p.length
        · rw [e, htk _ _ (Nat.le_refl _), List.take_length]; omega
        · rw [bt_app_lt (by omega)] at hbj
          rw [htk _ j (by omega)]
          exact hleast j (by omega) hbj
  · have hd1 : decide ((p.length : Int) < ((N : Nat) : Int)) = false := by simp; omega
    have hpN : p.length = N := by omega
    simp only [c_seq, RUNA, RUNB, Nat.reduceAdd, Nat.reduceMod, Nat.reduceDiv, Nat.reduceSub, Nat.reduceMul, Nat.reduceEqDiff, Nat.reduceBEq, Nat.reduceLeDiff, Int.reduceToNat, fillS, wantG, vBox, Value.cells, one, putAt, TYA, s1, s2, s6, s17, s18, hd1, hr]
    refine ⟨Or.inr ⟨p, _, ⟨hpN, ?_, fun j hj hbj => hleast j (by omega) hbj⟩, rfl, ⟨some ⟨V, 0, none⟩, N, by rw [hpN], fun _ => ⟨V, 0, _, _, rfl, by first | omega | (simp only [next_more, next_put] at *; omega), rv, ?_⟩⟩⟩, ?_⟩
    · obtain ⟨f, g1, g2⟩ := (cn_pos N _).1 hpos
      unfold preF at g2
      rw [mix_bt hpN g1] at g2; exact g2
    · rw [List.drop_zero, List.take_of_length_le (by simp [tab_len, hpN]), ← hpN, ← tab_bt p]
    · repeat first | assumption | exact EXn.refl _ _ | refine EXn.more ?_ _ | refine EXn.put ?_ (by omega) _ | refine EX.trans ?_ (by assumption)
end Go.Proofs.Ytlealdhgajomhaa
namespace Go.Proofs.Ytlealdhgajomhaa
open Go.AI
set_option linter.unusedVariables false
set_option linter.unusedSimpArgs false

def PW (φ : As → Bool) (N : Nat) (P : List Bool) : Prop := (cn N φ = 0 ∧ P = []) ∨ WitP φ N P
theorem PW.uniq {φ : As → Bool} {N : Nat} {P Q : List Bool} (h : PW φ N P) (k : PW φ N Q) : P = Q := by
  rcases h with ⟨h1, h2⟩ | h <;> rcases k with ⟨k1, k2⟩ | k
  · rw [h2, k2]
  · have := k.pos; omega
  · have := h.pos; omega
  · exact h.uniq k
theorem PW.len {φ : As → Bool} {N : Nat} {P : List Bool} (h : PW φ N P) : P.length ≤ N := by
  rcases h with ⟨_, rfl⟩ | h
  · simp
  · rw [h.len]; exact Nat.le_refl _
theorem WOut.same {φ : As → Bool} {N : Nat} {r : Value} {σ : St} (h : WOut φ N r σ) : ∃ (P : List Bool) (o : Option Addr) (c : Nat), r = .tuple #[.slice o P.length c, .bool (decide (0 < cn N φ))] ∧ SB σ (.slice o P.length c) P ∧ PW φ N P := by
  rcases h with ⟨h1, rfl⟩ | ⟨p, sv, h1, rfl, h2⟩
  · refine ⟨[], none, 0, ?_, ⟨none, 0, rfl, fun h => by simp at h⟩, Or.inl ⟨h1, rfl⟩⟩
    rw [show decide (0 < cn N φ) = false by simp [h1]]; rfl
  · have hp := h1.pos
    have h3 := h2
    obtain ⟨o, c, rfl, -⟩ := h3
    refine ⟨p, o, c, ?_, h2, Or.inr h1⟩
    rw [show decide (0 < cn N φ) = true by simp [hp]]
set_option maxRecDepth 20000 in
set_option maxHeartbeats 4000000 in
theorem count_go (cs : List Nat) (hc : ∀ k ∈ cs, k < 256) (cv : Value) (hcv : ArgS 1 cs.length cv) (n : Int) :
    wpc Try.prog 8 #[cv, .int .i64 n] (stA [] (u8s cs)) fun r _ => r = .bool true := by
  refine body_go Try.func8 rfl ?_
  have hr := Try.results8
  simp only [c_seq, RUNA, RUNB, Nat.reduceAdd, Nat.reduceMod, Nat.reduceDiv, Nat.reduceSub, Nat.reduceMul, Nat.reduceEqDiff, Nat.reduceBEq, Nat.reduceLeDiff, Int.reduceToNat, fillS, wantG, vBox, Value.cells, one, putAt, hr]
  refine wpc_mono (awake_A [] (u8s cs)) ?_
  rintro r σ ⟨rfl, hF, hn5, r0, r1⟩
  obtain ⟨co, cc, rfl, hc1, hc2⟩ := id hcv
  simp only [c_seq, RUNA, RUNB, Nat.reduceAdd, Nat.reduceMod, Nat.reduceDiv, Nat.reduceSub, Nat.reduceMul, Nat.reduceEqDiff, Nat.reduceBEq, Nat.reduceLeDiff, Int.reduceToNat, fillS, wantG, vBox, Value.cells, one, putAt, TYA, hr]
  by_cases g2 : 40 < cs.length
  · have d2 : decide ((40 : Int) < (cs.length : Int)) = true := by simp; omega
    simp only [c_seq, RUNA, RUNB, Nat.reduceAdd, Nat.reduceMod, Nat.reduceDiv, Nat.reduceSub, Nat.reduceMul, Nat.reduceEqDiff, Nat.reduceBEq, Nat.reduceLeDiff, Int.reduceToNat, fillS, wantG, vBox, Value.cells, one, putAt, TYA, hr, d2]
  have d2 : decide ((40 : Int) < (cs.length : Int)) = false := by simp; omega
  simp only [c_seq, RUNA, RUNB, Nat.reduceAdd, Nat.reduceMod, Nat.reduceDiv, Nat.reduceSub, Nat.reduceMul, Nat.reduceEqDiff, Nat.reduceBEq, Nat.reduceLeDiff, Int.reduceToNat, fillS, wantG, vBox, Value.cells, one, putAt, TYA, hr, d2, bd38]
  have w1 : ¬ 1 = σ.next + 5 := by omega
  refine wpc_mono (diagram_spec hc (by omega) 3 (by omega) _ (Src.new (cc := cc) hc1 (by simp only [c_seq, RUNA, RUNB, Nat.reduceAdd, Nat.reduceMod, Nat.reduceDiv, Nat.reduceSub, Nat.reduceMul, Nat.reduceEqDiff, Nat.reduceBEq, Nat.reduceLeDiff, Int.reduceToNat, fillS, wantG, vBox, Value.cells, one, putAt, w1, r1]) (by omega) (by first | omega | (simp only [next_more, next_put] at *; omega)) (by simp only [c_seq, RUNA, RUNB, Nat.reduceAdd, Nat.reduceMod, Nat.reduceDiv, Nat.reduceSub, Nat.reduceMul, Nat.reduceEqDiff, Nat.reduceBEq, Nat.reduceLeDiff, Int.reduceToNat, fillS, wantG, vBox, Value.cells, one, putAt])) (by repeat first | assumption | refine Fr.more ?_ _ | refine Fr.put ?_ _ _)) ?_
  rintro r σ1 ⟨⟨φ, hD1⟩, hS1, hE1, hF1⟩
  have n1 := hE1.next
  simp only [next_more, next_put] at n1 hD1
  obtain ⟨o1, k1, c1, i1, rfl⟩ := hD1.open
  simp only [RUNA, RUNB, Nat.reduceAdd, Nat.reduceMod, Nat.reduceDiv, Nat.reduceSub, Nat.reduceMul, Nat.reduceEqDiff, Nat.reduceBEq, Nat.reduceLeDiff, Int.reduceToNat, fillS, wantG, vBox, Value.cells, one, putAt, TYA]
  refine gen_go (fun S τ => S.at 1 = .int .i64 n ∧ S.at 5 = .pointer (some ⟨σ.next + 7, 0, none⟩) ∧ Fr τ ∧ BX (σ.next + 7) (.slice o1 k1 c1) (.int .i64 i1) φ τ) ?_ ?_
  · simp only [c_seq, RUNA, RUNB, Nat.reduceAdd, Nat.reduceMod, Nat.reduceDiv, Nat.reduceSub, Nat.reduceMul, Nat.reduceEqDiff, Nat.reduceBEq, Nat.reduceLeDiff, Int.reduceToNat, fillS, wantG, vBox, Value.cells, one, putAt]
    refine ⟨by repeat first | assumption | refine Fr.more ?_ _ | refine Fr.put ?_ _ _, ⟨by simp only [c_seq, RUNA, RUNB, Nat.reduceAdd, Nat.reduceMod, Nat.reduceDiv, Nat.reduceSub, Nat.reduceMul, Nat.reduceEqDiff, Nat.reduceBEq, Nat.reduceLeDiff, Int.reduceToNat, fillS, wantG, vBox, Value.cells, one, putAt], by first | omega | (simp only [next_more, next_put] at *; omega), IsD.hi (IsD.weak (hD1.un ?_) (Nat.zero_le _)) (by first | omega | (simp only [next_more, next_put] at *; omega))⟩⟩
    repeat first | assumption | exact UN.refl _ _ _ | refine UN.more ?_ _ | refine UN.put ?_ (by omega) _ | refine UN.ex (by assumption) ?_ (by first | omega | (simp only [next_more, next_put]; omega)) | refine UN.exb (by assumption) ?_ (by first | omega | (simp only [next_more, next_put]; omega)) (by omega)
  clear hD1 hS1 hE1 hF1
  rintro S τ ⟨s1, s5, hFt, hA⟩
  have hA0 := hA.lt
  obtain ⟨L, hL⟩ : ∃ L, L = supL (depB φ) 10 := ⟨_, rfl⟩
  have hLl : L.length ≤ 10 := by rw [hL]; exact supL_len _ _
  refine wpx_seq ?_
  refine d_go (ms := [0, 1, 0, 7, 15, 31]) (order := [0, 2, 1, 3, 4, 5]) (by kernel_rfl) (by kernel_rfl) (by kernel_rfl) ?_
  simp only [YRUNA, YRUNB, Nat.reduceShiftRight, bit, RUNA, RUNB, Nat.reduceAdd, Nat.reduceMod, Nat.reduceDiv, Nat.reduceSub, Nat.reduceMul, Nat.reduceEqDiff, Nat.reduceBEq, Nat.reduceLeDiff, Int.reduceToNat, fillS, wantG, vBox, Value.cells, one, putAt, TYA, s1, s5, hA.row]
  refine wpc_mono (Support_spec (hA.mono ?_).is (by repeat first | assumption | refine Fr.more ?_ _ | refine Fr.put ?_ _ _)) ?_
  · repeat first | assumption | exact EXn.refl _ _ | refine EXn.more ?_ _ | refine EXn.put ?_ (by omega) _ | refine EX.trans ?_ (by assumption)
  rintro xv σ2 ⟨⟨sx, hx⟩, hE2⟩
  rw [← hL] at hx
  have e2 : EX τ σ2 := by repeat first | assumption | exact EXn.refl _ _ | refine EXn.more ?_ _ | refine EXn.put ?_ (by omega) _ | refine EX.trans ?_ (by assumption)
  simp only [YRUNA, YRUNB, Nat.reduceShiftRight, bit, RUNA, RUNB, Nat.reduceAdd, Nat.reduceMod, Nat.reduceDiv, Nat.reduceSub, Nat.reduceMul, Nat.reduceEqDiff, Nat.reduceBEq, Nat.reduceLeDiff, Int.reduceToNat, fillS, wantG, vBox, Value.cells, one, putAt, TYA, s1, s5, (hA.mono e2).row]
  refine wpc_mono (refSupport_spec (hA.mono e2).is (e2.fr hFt)) ?_
  rintro yv σ3 ⟨⟨sy, hy⟩, hE3⟩
  rw [← hL] at hy
  have e3 : EX τ σ3 := EX.trans e2 hE3
  replace hx := hx.mono hE3
  obtain ⟨ox, cx, rfl, hxo⟩ := hx.open
  obtain ⟨oy, cy, rfl, hyo⟩ := hy.open
  simp only [YRUNA, YRUNB, Nat.reduceShiftRight, bit, RUNA, RUNB, Nat.reduceAdd, Nat.reduceMod, Nat.reduceDiv, Nat.reduceSub, Nat.reduceMul, Nat.reduceEqDiff, Nat.reduceBEq, Nat.reduceLeDiff, Int.reduceToNat, fillS, wantG, vBox, Value.cells, one, putAt, TYA, s1, s5, (hA.mono e3).row]
  have hq : ((L.length : Int) != (L.length : Int)) = false := by simp
  refine wpx_seq (wpx_seq ?_)
  simp only [RUNA, RUNB, Nat.reduceAdd, Nat.reduceMod, Nat.reduceDiv, Nat.reduceSub, Nat.reduceMul, Nat.reduceEqDiff, Nat.reduceBEq, Nat.reduceLeDiff, Int.reduceToNat, fillS, wantG, vBox, Value.cells, one, putAt, TYA, hq]
  refine gen_go (fun S τ' => S.at 1 = .int .i64 n ∧ S.at 5 = .pointer (some ⟨σ.next + 7, 0, none⟩) ∧ S.at 6 = .slice ox L.length cx ∧ S.at 7 = .slice oy L.length cy ∧ EX σ3 τ') ?_ ?_
  · simp only [c_seq, RUNA, RUNB, Nat.reduceAdd, Nat.reduceMod, Nat.reduceDiv, Nat.reduceSub, Nat.reduceMul, Nat.reduceEqDiff, Nat.reduceBEq, Nat.reduceLeDiff, Int.reduceToNat, fillS, wantG, vBox, Value.cells, one, putAt, s1, s5]
    repeat first | assumption | exact EXn.refl _ _ | refine EXn.more ?_ _ | refine EXn.put ?_ (by omega) _ | refine EX.trans ?_ (by assumption)
  clear s1 s5
  rintro S τ3 ⟨s1, s5, s6, s7, hE3'⟩
  refine seq_cut (fun S τ' => S.at 1 = .int .i64 n ∧ S.at 5 = .pointer (some ⟨σ.next + 7, 0, none⟩) ∧ EX σ3 τ') ?_ ?_
  · refine wpx_seq ?_
    simp only [RUNA, RUNB, Nat.reduceAdd, Nat.reduceMod, Nat.reduceDiv, Nat.reduceSub, Nat.reduceMul, Nat.reduceEqDiff, Nat.reduceBEq, Nat.reduceLeDiff, Int.reduceToNat, fillS, wantG, vBox, Value.cells, one, putAt, TYA, s1, s5, s6, s7]
    refine loop_go (fun m S τ' => S.at 1 = .int .i64 n ∧ S.at 5 = .pointer (some ⟨σ.next + 7, 0, none⟩) ∧ S.at 6 = .slice ox L.length cx ∧ S.at 7 = .slice oy L.length cy ∧ EX σ3 τ' ∧ ∃ i : Nat, S.at 8 = .int .i64 i ∧ i ≤ L.length ∧ m = L.length - i) L.length ?_ ?_
    · simp only [c_seq, RUNA, RUNB, Nat.reduceAdd, Nat.reduceMod, Nat.reduceDiv, Nat.reduceSub, Nat.reduceMul, Nat.reduceEqDiff, Nat.reduceBEq, Nat.reduceLeDiff, Int.reduceToNat, fillS, wantG, vBox, Value.cells, one, putAt, s1, s5, s6, s7]
      refine ⟨?_, 0, rfl, Nat.zero_le _, rfl⟩
      repeat first | assumption | exact EXn.refl _ _ | refine EXn.more ?_ _ | refine EXn.put ?_ (by omega) _ | refine EX.trans ?_ (by assumption)
    clear s1 s5 s6 s7
    rintro _ S τ' ⟨s1, s5, s6, s7, hE', i, s8, hi, rfl⟩
    by_cases hlt : i < L.length
    · have hd : decide ((i : Int) < (L.length : Int)) = true := by simp; omega
      have hw : IntKind.i64.wrap ((i : Int) + 1) = ((i + 1 : Nat) : Int) := by rw [wrap64 (by omega) (by omega)]; rfl
      have y0 : (0 : Int) ≤ (i : Int) := by omega
      have y1 : (i : Int) < (L.length : Int) := by omega
      obtain ⟨mx, rfl, hx1, hx2⟩ := hxo (by omega)
      obtain ⟨my, rfl, hy1, hy2⟩ := hyo (by omega)
      have rx := (hE'.row sx hx1).trans hx2
      have ry := (hE'.row sy hy1).trans hy2
      have hat := ints_at hlt
      have hne : ((L.getD i 0) != (L.getD i 0)) = false := by simp
      simp only [c_seq, RUNA, RUNB, Nat.reduceAdd, Nat.reduceMod, Nat.reduceDiv, Nat.reduceSub, Nat.reduceMul, Nat.reduceEqDiff, Nat.reduceBEq, Nat.reduceLeDiff, Int.reduceToNat, fillS, wantG, vBox, Value.cells, one, putAt, TYA, s1, s5, s6, s7, s8, hd]
      refine d_go (ms := [0, 0, 3, 7, 0, 0, 48, 112, 255]) (order := [0, 1, 2, 3, 4, 5, 6, 7, 8]) (by kernel_rfl) (by kernel_rfl) (by kernel_rfl) ?_
      simp only [YRUNA, YRUNB, Nat.reduceShiftRight, bit, c_seq, RUNA, RUNB, Nat.reduceAdd, Nat.reduceMod, Nat.reduceDiv, Nat.reduceSub, Nat.reduceMul, Nat.reduceEqDiff, Nat.reduceBEq, Nat.reduceLeDiff, Int.reduceToNat, fillS, wantG, vBox, Value.cells, one, putAt, TYA, s1, s5, s6, s7, s8, ia58 y0 y1, rx, ry, hat, hne, hw]
      refine ⟨L.length - (i + 1), by omega, ?_, i + 1, rfl, by omega, rfl⟩
      repeat first | assumption | exact EXn.refl _ _ | refine EXn.more ?_ _ | refine EXn.put ?_ (by omega) _ | refine EX.trans ?_ (by assumption)
    · have hd : decide ((i : Int) < (L.length : Int)) = false := by simp; omega
      simp only [c_seq, RUNA, RUNB, Nat.reduceAdd, Nat.reduceMod, Nat.reduceDiv, Nat.reduceSub, Nat.reduceMul, Nat.reduceEqDiff, Nat.reduceBEq, Nat.reduceLeDiff, Int.reduceToNat, fillS, wantG, vBox, Value.cells, one, putAt, TYA, s1, s5, s6, s7, s8, hd]
      repeat first | assumption | exact EXn.refl _ _ | refine EXn.more ?_ _ | refine EXn.put ?_ (by omega) _ | refine EX.trans ?_ (by assumption)
  clear s1 s5 s6 s7 hE3'
  rintro S τ4 ⟨s1, s5, hE4⟩
  have e4 : EX τ τ4 := EX.trans e3 hE4
  have hA4 := hA.mono e4
  have f4 := e4.fr hFt
  obtain ⟨N, hN⟩ : ∃ N, N = bnd n := ⟨_, rfl⟩
  refine wpx_seq ?_
  simp only [RUNA, RUNB, Nat.reduceAdd, Nat.reduceMod, Nat.reduceDiv, Nat.reduceSub, Nat.reduceMul, Nat.reduceEqDiff, Nat.reduceBEq, Nat.reduceLeDiff, Int.reduceToNat, fillS, wantG, vBox, Value.cells, one, putAt, TYA, s1, s5, hA4.row]
  refine wpc_mono (Witness_spec n (hA4.mono ?_).is (by repeat first | assumption | refine Fr.more ?_ _ | refine Fr.put ?_ _ _)) ?_
  · repeat first | assumption | exact EXn.refl _ _ | refine EXn.more ?_ _ | refine EXn.put ?_ (by omega) _ | refine EX.trans ?_ (by assumption)
  rintro r σ5 ⟨hW5, hE5⟩
  rw [← hN] at hW5
  obtain ⟨P, op, cp, rfl, hP, hP'⟩ := hW5.same
  have e5 : EX τ4 σ5 := by repeat first | assumption | exact EXn.refl _ _ | refine EXn.more ?_ _ | refine EXn.put ?_ (by omega) _ | refine EX.trans ?_ (by assumption)
  have f5 := e5.fr f4
  simp only [RUNA, RUNB, Nat.reduceAdd, Nat.reduceMod, Nat.reduceDiv, Nat.reduceSub, Nat.reduceMul, Nat.reduceEqDiff, Nat.reduceBEq, Nat.reduceLeDiff, Int.reduceToNat, fillS, wantG, vBox, Value.cells, one, putAt, TYA, s1, s5]
  refine wpx_seq ?_
  simp only [RUNA, RUNB, Nat.reduceAdd, Nat.reduceMod, Nat.reduceDiv, Nat.reduceSub, Nat.reduceMul, Nat.reduceEqDiff, Nat.reduceBEq, Nat.reduceLeDiff, Int.reduceToNat, fillS, wantG, vBox, Value.cells, one, putAt, TYA, s1, s5, (hA4.mono e5).row]
  refine wpc_mono (refWitness_spec n ((hA4.mono e5).mono ?_).is (by repeat first | assumption | refine Fr.more ?_ _ | refine Fr.put ?_ _ _)) ?_
  · repeat first | assumption | exact EXn.refl _ _ | refine EXn.more ?_ _ | refine EXn.put ?_ (by omega) _ | refine EX.trans ?_ (by assumption)
  rintro r σ6 ⟨hW6, hE6⟩
  rw [← hN] at hW6
  obtain ⟨Q, oq, cq, rfl, hQ, hQ'⟩ := hW6.same
  obtain rfl := hP'.uniq hQ'
  have e56 : EX σ5 σ6 := by repeat first | assumption | exact EXn.refl _ _ | refine EXn.more ?_ _ | refine EXn.put ?_ (by omega) _ | refine EX.trans ?_ (by assumption)
  have e6 : EX τ4 σ6 := EX.trans e5 e56
  have hP6 := hP.mono e56
  have f6 := e6.fr f4
  have hPl := hP'.len
  have hNb := bnd_le n
  simp only [RUNA, RUNB, Nat.reduceAdd, Nat.reduceMod, Nat.reduceDiv, Nat.reduceSub, Nat.reduceMul, Nat.reduceEqDiff, Nat.reduceBEq, Nat.reduceLeDiff, Int.reduceToNat, fillS, wantG, vBox, Value.cells, one, putAt, TYA, s1, s5]
  obtain ⟨b, hbb⟩ : ∃ b, b = decide (0 < cn N φ) := ⟨_, rfl⟩
  rw [← hbb]
  refine gen_go (fun S τ' => S.at 1 = .int .i64 n ∧ S.at 5 = .pointer (some ⟨σ.next + 7, 0, none⟩) ∧ S.at 9 = .slice op P.length cp ∧ S.at 10 = .bool b ∧ S.at 11 = .slice oq P.length cq ∧ S.at 12 = .bool b ∧ EX σ6 τ') ?_ ?_
  · simp only [c_seq, RUNA, RUNB, Nat.reduceAdd, Nat.reduceMod, Nat.reduceDiv, Nat.reduceSub, Nat.reduceMul, Nat.reduceEqDiff, Nat.reduceBEq, Nat.reduceLeDiff, Int.reduceToNat, fillS, wantG, vBox, Value.cells, one, putAt, s1, s5]
    repeat first | assumption | exact EXn.refl _ _ | refine EXn.more ?_ _ | refine EXn.put ?_ (by omega) _ | refine EX.trans ?_ (by assumption)
  clear s1 s5
  rintro S τ7 ⟨s1, s5, s9, s10, s11, s12, hE7⟩
  have e7 : EX τ4 τ7 := EX.trans e6 hE7
  have hA7 := hA4.mono e7
  have f7 := e7.fr f4
  have hb2 : (!(b == b)) = false := by simp
  have hl2 : ((P.length : Int) != (P.length : Int)) = false := by simp
  have hcc : decide ((0 : Int) < ((cn N φ : Nat) : Int)) = b := by
    rw [hbb]
    by_cases h : 0 < cn N φ
    · rw [decide_eq_true h]; simp; omega
    · rw [decide_eq_false h]; simp; omega
  refine wpx_seq (wpx_seq ?_)
  simp only [RUNA, RUNB, Nat.reduceAdd, Nat.reduceMod, Nat.reduceDiv, Nat.reduceSub, Nat.reduceMul, Nat.reduceEqDiff, Nat.reduceBEq, Nat.reduceLeDiff, Int.reduceToNat, fillS, wantG, vBox, Value.cells, one, putAt, TYA, s1, s5, s9, s10, s11, s12, n_neb Try.underlying4, hb2, hl2, hA7.row]
  refine wpc_mono (Count_spec n (hA7.mono ?_).is (by repeat first | assumption | refine Fr.more ?_ _ | refine Fr.put ?_ _ _)) ?_
  · repeat first | assumption | exact EXn.refl _ _ | refine EXn.more ?_ _ | refine EXn.put ?_ (by omega) _ | refine EX.trans ?_ (by assumption)
  rintro r σ8 ⟨rfl, hE8⟩
  rw [← hN]
  have e8 : EX τ7 σ8 := by repeat first | assumption | exact EXn.refl _ _ | refine EXn.more ?_ _ | refine EXn.put ?_ (by omega) _ | refine EX.trans ?_ (by assumption)
  simp only [RUNA, RUNB, Nat.reduceAdd, Nat.reduceMod, Nat.reduceDiv, Nat.reduceSub, Nat.reduceMul, Nat.reduceEqDiff, Nat.reduceBEq, Nat.reduceLeDiff, Int.reduceToNat, fillS, wantG, vBox, Value.cells, one, putAt, TYA, s1, s5, s9, s10, s11, s12, n_neb Try.underlying4, hb2, hcc]
  refine gen_go (fun S τ' => S.at 1 = .int .i64 n ∧ S.at 5 = .pointer (some ⟨σ.next + 7, 0, none⟩) ∧ S.at 9 = .slice op P.length cp ∧ S.at 11 = .slice oq P.length cq ∧ EX τ7 τ') ?_ ?_
  · simp only [c_seq, RUNA, RUNB, Nat.reduceAdd, Nat.reduceMod, Nat.reduceDiv, Nat.reduceSub, Nat.reduceMul, Nat.reduceEqDiff, Nat.reduceBEq, Nat.reduceLeDiff, Int.reduceToNat, fillS, wantG, vBox, Value.cells, one, putAt, s1, s5, s9, s10, s11, s12]
    repeat first | assumption | exact EXn.refl _ _ | refine EXn.more ?_ _ | refine EXn.put ?_ (by omega) _ | refine EX.trans ?_ (by assumption)
  clear s1 s5 s9 s10 s11 s12
  rintro S τ8 ⟨s1, s5, s9, s11, hE8'⟩
  have e68 : EX σ6 τ8 := EX.trans hE7 hE8'
  have hP8 := hP6.mono e68
  have hQ8 := hQ.mono e68
  obtain ⟨op', cp', ep, hPo⟩ := hP8
  obtain ⟨oq', cq', eq, hQo⟩ := hQ8
  simp only [Value.slice.injEq, true_and] at ep eq
  obtain ⟨rfl, rfl⟩ := ep
  obtain ⟨rfl, rfl⟩ := eq
  refine seq_cut (fun S τ' => S.at 1 = .int .i64 n ∧ S.at 5 = .pointer (some ⟨σ.next + 7, 0, none⟩) ∧ EX τ8 τ') ?_ ?_
  · refine wpx_seq ?_
    simp only [RUNA, RUNB, Nat.reduceAdd, Nat.reduceMod, Nat.reduceDiv, Nat.reduceSub, Nat.reduceMul, Nat.reduceEqDiff, Nat.reduceBEq, Nat.reduceLeDiff, Int.reduceToNat, fillS, wantG, vBox, Value.cells, one, putAt, TYA, s1, s5, s9, s11]
    refine loop_go (fun m S τ' => S.at 1 = .int .i64 n ∧ S.at 5 = .pointer (some ⟨σ.next + 7, 0, none⟩) ∧ S.at 9 = .slice op P.length cp ∧ S.at 11 = .slice oq P.length cq ∧ EX τ8 τ' ∧ ∃ i : Nat, S.at 13 = .int .i64 i ∧ i ≤ P.length ∧ m = P.length - i) P.length ?_ ?_
    · simp only [c_seq, RUNA, RUNB, Nat.reduceAdd, Nat.reduceMod, Nat.reduceDiv, Nat.reduceSub, Nat.reduceMul, Nat.reduceEqDiff, Nat.reduceBEq, Nat.reduceLeDiff, Int.reduceToNat, fillS, wantG, vBox, Value.cells, one, putAt, s1, s5, s9, s11]
      refine ⟨?_, 0, rfl, Nat.zero_le _, rfl⟩
      repeat first | assumption | exact EXn.refl _ _ | refine EXn.more ?_ _ | refine EXn.put ?_ (by omega) _ | refine EX.trans ?_ (by assumption)
    clear s1 s5 s9 s11
    rintro _ S τ' ⟨s1, s5, s9, s11, hE', i, s13, hi, rfl⟩
    by_cases hlt : i < P.length
    · have hd : decide ((i : Int) < (P.length : Int)) = true := by simp; omega
      have hw : IntKind.i64.wrap ((i : Int) + 1) = ((i + 1 : Nat) : Int) := by rw [wrap64 (by omega) (by omega)]; rfl
      have y0 : (0 : Int) ≤ (i : Int) := by omega
      have y1 : (i : Int) < (P.length : Int) := by omega
      obtain ⟨p1, p2, p3, p4, rfl, p5, p6, p7⟩ := hPo (by omega)
      obtain ⟨q1, q2, q3, q4, rfl, q5, q6, q7⟩ := hQo (by omega)
      have rp := (hE'.row p1 p5).trans p6
      have rq := (hE'.row q1 q5).trans q6
      have vp := tb_at p7 hlt
      have vq := tb_at q7 hlt
      have hne : (!(bt P i == bt P i)) = false := by simp
      simp only [c_seq, RUNA, RUNB, Nat.reduceAdd, Nat.reduceMod, Nat.reduceDiv, Nat.reduceSub, Nat.reduceMul, Nat.reduceEqDiff, Nat.reduceBEq, Nat.reduceLeDiff, Int.reduceToNat, fillS, wantG, vBox, Value.cells, one, putAt, TYA, s1, s5, s9, s11, s13, hd]
      refine d_go (ms := [0, 0, 3, 7, 0, 0, 48, 112, 255]) (order := [0, 1, 2, 3, 4, 5, 6, 7, 8]) (by kernel_rfl) (by kernel_rfl) (by kernel_rfl) ?_
      simp only [YRUNA, YRUNB, Nat.reduceShiftRight, bit, c_seq, RUNA, RUNB, Nat.reduceAdd, Nat.reduceMod, Nat.reduceDiv, Nat.reduceSub, Nat.reduceMul, Nat.reduceEqDiff, Nat.reduceBEq, Nat.reduceLeDiff, Int.reduceToNat, fillS, wantG, vBox, Value.cells, one, putAt, TYA, s1, s5, s9, s11, s13, ia43 y0 y1, rp, rq, vp, vq, n_neb Try.underlying4, hne, hw]
      refine ⟨P.length - (i + 1), by omega, ?_, i + 1, rfl, by omega, rfl⟩
      repeat first | assumption | exact EXn.refl _ _ | refine EXn.more ?_ _ | refine EXn.put ?_ (by omega) _ | refine EX.trans ?_ (by assumption)
    · have hd : decide ((i : Int) < (P.length : Int)) = false := by simp; omega
      simp only [c_seq, RUNA, RUNB, Nat.reduceAdd, Nat.reduceMod, Nat.reduceDiv, Nat.reduceSub, Nat.reduceMul, Nat.reduceEqDiff, Nat.reduceBEq, Nat.reduceLeDiff, Int.reduceToNat, fillS, wantG, vBox, Value.cells, one, putAt, TYA, s1, s5, s9, s11, s13, hd]
      repeat first | assumption | exact EXn.refl _ _ | refine EXn.more ?_ _ | refine EXn.put ?_ (by omega) _ | refine EX.trans ?_ (by assumption)
  clear s1 s5 s9 s11
  rintro S τ9 ⟨s1, s5, hE9⟩
  have e9 : EX τ7 τ9 := EX.trans hE8' hE9
  have hA9 := hA7.mono e9
  have f9 := e9.fr f7
  have h10 : bnd 10 = 10 := rfl
  have hx1 : (((cn N φ : Nat) : Int) == ((cn N φ : Nat) : Int)) = true := by simp
  have hx2 : (((cn 10 φ : Nat) : Int) == ((cn 10 φ : Nat) : Int)) = true := by simp
  refine wpx_seq ?_
  refine d_go (ms := [0, 0, 3, 0, 0, 31, 63, 127, 255, 511, 255, 2047, 4095, 8191, 16383]) (order := [0, 1, 3, 4, 2, 5, 6, 7, 8, 10, 9, 11, 12, 13, 14]) (by kernel_rfl) (by kernel_rfl) (by kernel_rfl) ?_
  simp only [YRUNA, YRUNB, Nat.reduceShiftRight, bit, c_seq, RUNA, RUNB, Nat.reduceAdd, Nat.reduceMod, Nat.reduceDiv, Nat.reduceSub, Nat.reduceMul, Nat.reduceEqDiff, Nat.reduceBEq, Nat.reduceLeDiff, Int.reduceToNat, fillS, wantG, vBox, Value.cells, one, putAt, TYA, s1, s5, hA9.row]
  refine wpc_mono (Count_spec n (hA9.mono ?_).is (by repeat first | assumption | refine Fr.more ?_ _ | refine Fr.put ?_ _ _)) ?_
  · repeat first | assumption | exact EXn.refl _ _ | refine EXn.more ?_ _ | refine EXn.put ?_ (by omega) _ | refine EX.trans ?_ (by assumption)
  rintro r σ10 ⟨rfl, hE10⟩
  rw [← hN]
  have e10 : EX τ9 σ10 := by repeat first | assumption | exact EXn.refl _ _ | refine EXn.more ?_ _ | refine EXn.put ?_ (by omega) _ | refine EX.trans ?_ (by assumption)
  simp only [YRUNA, YRUNB, Nat.reduceShiftRight, bit, c_seq, RUNA, RUNB, Nat.reduceAdd, Nat.reduceMod, Nat.reduceDiv, Nat.reduceSub, Nat.reduceMul, Nat.reduceEqDiff, Nat.reduceBEq, Nat.reduceLeDiff, Int.reduceToNat, fillS, wantG, vBox, Value.cells, one, putAt, TYA, s1, s5, (hA9.mono e10).row]
  refine wpc_mono (refCount_spec n (hA9.mono e10).is (e10.fr f9)) ?_
  rintro r σ11 ⟨rfl, hE11⟩
  rw [← hN]
  have e11 : EX τ9 σ11 := EX.trans e10 hE11
  simp only [YRUNA, YRUNB, Nat.reduceShiftRight, bit, c_seq, RUNA, RUNB, Nat.reduceAdd, Nat.reduceMod, Nat.reduceDiv, Nat.reduceSub, Nat.reduceMul, Nat.reduceEqDiff, Nat.reduceBEq, Nat.reduceLeDiff, Int.reduceToNat, fillS, wantG, vBox, Value.cells, one, putAt, TYA, s1, s5, (hA9.mono e11).row, hx1]
  refine wpc_mono (Count_spec 10 (hA9.mono e11).is (e11.fr f9)) ?_
  rintro r σ12 ⟨rfl, hE12⟩
  rw [h10]
  have e12 : EX τ9 σ12 := EX.trans e11 hE12
  simp only [YRUNA, YRUNB, Nat.reduceShiftRight, bit, c_seq, RUNA, RUNB, Nat.reduceAdd, Nat.reduceMod, Nat.reduceDiv, Nat.reduceSub, Nat.reduceMul, Nat.reduceEqDiff, Nat.reduceBEq, Nat.reduceLeDiff, Int.reduceToNat, fillS, wantG, vBox, Value.cells, one, putAt, TYA, s1, s5, (hA9.mono e12).row, hx1]
  refine wpc_mono (refCount_spec 10 (hA9.mono e12).is (e12.fr f9)) ?_
  rintro r σ13 ⟨rfl, hE13⟩
  rw [h10]
  have e13 : EX τ9 σ13 := EX.trans e12 hE13
  simp only [YRUNA, YRUNB, Nat.reduceShiftRight, bit, c_seq, RUNA, RUNB, Nat.reduceAdd, Nat.reduceMod, Nat.reduceDiv, Nat.reduceSub, Nat.reduceMul, Nat.reduceEqDiff, Nat.reduceBEq, Nat.reduceLeDiff, Int.reduceToNat, fillS, wantG, vBox, Value.cells, one, putAt, TYA, s1, s5, (hA9.mono e13).row, hx1, hx2, hr]
theorem count_walk {b0 : Nat} {H : Type} {enc : TypeId × Value → H} {W : World} {v0 : Value} {d0 : DataW H} {ps0 : List MemPlace} (hv0 : Value.okWide Try.prog W .any b0 32 v0) (h0 : DataW.Trod enc Try.prog W 0 (fun _ => true) true 32 v0 d0 ps0)
    (a : Int) (wa : (Lit.int .i64 a).wf = true) :
    Calls Try.prog 8 #[v0, .int .i64 a] W fun e w' => e = .returned (.bool true) ∧ Kept W w' := by
  obtain ⟨cs, hc, hcs⟩ := open_u8s hv0 h0
  obtain ⟨p1, u1, k1, g1, r1⟩ := arg_vr (z := 1) (id := 1) (μ := fun _ => none) (u8s_plain cs) hcs
  have hgo := count_go cs hc u1 g1 a
  have hargs : VRL (muA none p1) [u1, .int .i64 a] [v0, .int .i64 a] := .cons (r1 _ rfl) (.cons (.same _ rfl) .nil)
  refine (wpc_calls okTry hgo (sim_args (p0 := none) (fun p h => by cases h) k1) (args' := #[v0, .int .i64 a]) hargs).mono ?_
  rintro e w' ⟨μ', r, σ', r', rfl, he, hr, hZ⟩
  rw [he, hr.eq0 rfl]
  exact ⟨rfl, hZ.kept⟩
end Go.Proofs.Ytlealdhgajomhaa
