import Derived.Test.YtmjddjjcnhckgaaGreatDoorKl
set_option linter.unusedVariables false
set_option linter.unusedSimpArgs false
set_option linter.constructorNameAsVariable false
open Nat renaming reduceAdd → zAd, reduceMod → zMo, reduceDiv → zDi, reduceSub → zSu, reduceMul → zMu, reduceEqDiff → zEq, reduceBEq → zBe, reduceLeDiff → zLe, reduceShiftRight → zSh
open Int renaming reduceToNat → zTo
namespace Go.Proofs.Q
open Go.AI
def AL (σ : St) (v : Value) (l : List PT) : Prop := ∃ a c, v = .slice a l.length c ∧ (l ≠ [] → ∃ id off row m, a = some ⟨id, off, none⟩ ∧ id < σ.next ∧ σ.row id = some (row, m11 m) ∧ TL σ l ((row.drop off).take (l.length * 11)))
theorem AL.mono {σ σ' : St} {v : Value} {l : List PT} (h : AL σ v l) (e : EX σ σ') : AL σ' v l := by
 obtain ⟨a, c, h1, h2⟩ := h
 refine ⟨a, c, h1, fun hl => ?_⟩
 obtain ⟨id, off, row, m, g1, g2, g3, g4⟩ := h2 hl
 exact ⟨id, off, row, m, g1, by have := e.next; omega, (e.row id g2).trans g3, TL.mono e l g4⟩
theorem AL.tv {σ : St} {p s : ByteArray} {l : List PT} {a : Option Addr} {c : Nat} (k : Int) (o : Ob) (h : AL σ (.slice a l.length c) l) : TV σ (.agg #[.int .i64 k, .string p, .string s, .int .i64 o.k, .string o.n, .string o.d, .string o.p, .string o.s, .string o.t, .slice none 0 0, .slice a l.length c]) (.mk k p s o l) := by
 obtain ⟨a', c', h1, h2⟩ := h
 cases h1
 exact TV.mk (t := .mk k p s o l) h2
theorem TL.one {σ : St} {t : PT} {xs : List Value} (h : TC σ t xs) : TL σ [t] xs := by
 simp only [TL]; exact ⟨xs, [], by simp, h, rfl⟩
theorem TL.cons {σ : St} {t : PT} {l : List PT} {xs ys : List Value} (h : TC σ t xs) (k : TL σ l ys) : TL σ (t :: l) (xs ++ ys) := by
 simp only [TL]; exact ⟨xs, ys, rfl, h, k⟩
theorem TV.tc {σ : St} {t : PT} {xs : List Value} (h : TV σ (.agg xs.toArray) t) : TC σ t xs := by
 obtain ⟨ys, h1, h2⟩ := h
 have : xs = ys := by simpa using h1
 subst this; exact h2
theorem bsT1 (id : Nat) (t : PT) (At : Option Addr) (nt ct : Nat) : vBuildS Tryz.prog 32 1 #[(0, .agg #[.int .i64 t.k, .string t.p, .string t.s, .int .i64 t.o.k, .string t.o.n, .string t.o.d, .string t.o.p, .string t.o.s, .string t.o.t, .slice none 0 0, .slice At nt ct])] id =
    some (.slice (some ⟨id, 0, none⟩) 1 1, .cells [.int .i64 t.k, .string t.p, .string t.s, .int .i64 t.o.k, .string t.o.n, .string t.o.d, .string t.o.p, .string t.o.s, .string t.o.t, .slice none 0 0, .slice At nt ct] (rowMeta 11)) := by kernel_rfl
theorem bsT2 (id : Nat) (t : PT) (At : Option Addr) (nt ct : Nat) (u : PT) (Au : Option Addr) (nu cu : Nat) : vBuildS Tryz.prog 32 2 #[(0, .agg #[.int .i64 t.k, .string t.p, .string t.s, .int .i64 t.o.k, .string t.o.n, .string t.o.d, .string t.o.p, .string t.o.s, .string t.o.t, .slice none 0 0, .slice At nt ct]), (1, .agg #[.int .i64 u.k, .string u.p, .string u.s, .int .i64 u.o.k, .string u.o.n, .string u.o.d, .string u.o.p, .string u.o.s, .string u.o.t, .slice none 0 0, .slice Au nu cu])] id =
    some (.slice (some ⟨id, 0, none⟩) 2 2, .cells [.int .i64 t.k, .string t.p, .string t.s, .int .i64 t.o.k, .string t.o.n, .string t.o.d, .string t.o.p, .string t.o.s, .string t.o.t, .slice none 0 0, .slice At nt ct, .int .i64 u.k, .string u.p, .string u.s, .int .i64 u.o.k, .string u.o.n, .string u.o.d, .string u.o.p, .string u.o.s, .string u.o.t, .slice none 0 0, .slice Au nu cu] (rowMeta 11)) := by kernel_rfl
theorem bsT3 (id : Nat) (t : PT) (At : Option Addr) (nt ct : Nat) (u : PT) (Au : Option Addr) (nu cu : Nat) (w : PT) (Aw : Option Addr) (nw cw : Nat) : vBuildS Tryz.prog 32 3 #[(0, .agg #[.int .i64 t.k, .string t.p, .string t.s, .int .i64 t.o.k, .string t.o.n, .string t.o.d, .string t.o.p, .string t.o.s, .string t.o.t, .slice none 0 0, .slice At nt ct]), (1, .agg #[.int .i64 u.k, .string u.p, .string u.s, .int .i64 u.o.k, .string u.o.n, .string u.o.d, .string u.o.p, .string u.o.s, .string u.o.t, .slice none 0 0, .slice Au nu cu]), (2, .agg #[.int .i64 w.k, .string w.p, .string w.s, .int .i64 w.o.k, .string w.o.n, .string w.o.d, .string w.o.p, .string w.o.s, .string w.o.t, .slice none 0 0, .slice Aw nw cw])] id =
    some (.slice (some ⟨id, 0, none⟩) 3 3, .cells [.int .i64 t.k, .string t.p, .string t.s, .int .i64 t.o.k, .string t.o.n, .string t.o.d, .string t.o.p, .string t.o.s, .string t.o.t, .slice none 0 0, .slice At nt ct, .int .i64 u.k, .string u.p, .string u.s, .int .i64 u.o.k, .string u.o.n, .string u.o.d, .string u.o.p, .string u.o.s, .string u.o.t, .slice none 0 0, .slice Au nu cu, .int .i64 w.k, .string w.p, .string w.s, .int .i64 w.o.k, .string w.o.n, .string w.o.d, .string w.o.p, .string w.o.s, .string w.o.t, .slice none 0 0, .slice Aw nw cw] (rowMeta 11)) := by kernel_rfl
theorem bdT3 (p s : ByteArray) (a : Option Addr) (n c : Nat) : abuild Tryz.prog 34 #[(0, .int .i64 3), (1, .agg #[.string p, .string s]), (3, .slice a n c)] = some (.agg #[.int .i64 3, .string p, .string s, .int .i64 0, .string ⟨#[]⟩, .string ⟨#[]⟩, .string ⟨#[]⟩, .string ⟨#[]⟩, .string ⟨#[]⟩, .slice none 0 0, .slice a n c]) := by kernel_rfl
theorem bdT1 (p s : ByteArray) : abuild Tryz.prog 34 #[(0, .int .i64 1), (1, .agg #[.string p, .string s])] = some (.agg #[.int .i64 1, .string p, .string s, .int .i64 0, .string ⟨#[]⟩, .string ⟨#[]⟩, .string ⟨#[]⟩, .string ⟨#[]⟩, .string ⟨#[]⟩, .slice none 0 0, .slice none 0 0]) := by kernel_rfl
theorem bdT2 (k : Int) (a b d e f : ByteArray) : abuild Tryz.prog 34 #[(0, .int .i64 2), (2, .agg #[.int .i64 k, .string a, .string b, .string d, .string e, .string f, .slice none 0 0])] = some (.agg #[.int .i64 2, .string ⟨#[]⟩, .string ⟨#[]⟩, .int .i64 k, .string a, .string b, .string d, .string e, .string f, .slice none 0 0, .slice none 0 0]) := by kernel_rfl
abbrev appV (p s : ByteArray) (a : Option Addr) (n c : Nat) : Value := .agg #[.int .i64 3, .string p, .string s, .int .i64 0, .string ⟨#[]⟩, .string ⟨#[]⟩, .string ⟨#[]⟩, .string ⟨#[]⟩, .string ⟨#[]⟩, .slice none 0 0, .slice a n c]
abbrev varV (p s : ByteArray) : Value := .agg #[.int .i64 1, .string p, .string s, .int .i64 0, .string ⟨#[]⟩, .string ⟨#[]⟩, .string ⟨#[]⟩, .string ⟨#[]⟩, .string ⟨#[]⟩, .slice none 0 0, .slice none 0 0]
abbrev conV (o : Ob) : Value := .agg #[.int .i64 2, .string ⟨#[]⟩, .string ⟨#[]⟩, .int .i64 o.k, .string o.n, .string o.d, .string o.p, .string o.s, .string o.t, .slice none 0 0, .slice none 0 0]
theorem refApp_spec (σ : St) (p s : ByteArray) (a : Option Addr) (n c : Nat) : wpc Tryz.prog 57 #[.agg #[.string p, .string s], .slice a n c] σ fun r σ' => r = appV p s a n c ∧ EX σ σ' := by
 refine body_go Tryz.func57 rfl ?_
 have hr := Tryz.results57
 simp only [c_seq, RUNA, RUNB, zAd, zMo, zDi, zSu, zMu, zEq, zBe, zLe, zTo, fillS, wantG, vBox, Value.cells, one, putAt, TYA, hr, bdT3]
 first
 | exact ⟨rfl, by repeat first | assumption | exact EXn.refl _ _ | refine EXn.more ?_ _ | refine EXn.put ?_ (by omega) _ | refine EX.trans ?_ (by assumption)⟩
 | (repeat first | assumption | exact EXn.refl _ _ | refine EXn.more ?_ _ | refine EXn.put ?_ (by omega) _ | refine EX.trans ?_ (by assumption))
theorem App_spec (σ : St) (p s : ByteArray) (a : Option Addr) (n c : Nat) : wpc Tryz.prog 95 #[.agg #[.string p, .string s], .slice a n c] σ fun r σ' => r = appV p s a n c ∧ EX σ σ' := by
 refine body_go Tryz.func95 rfl ?_
 have hr := Tryz.results95
 simp only [c_seq, RUNA, RUNB, zAd, zMo, zDi, zSu, zMu, zEq, zBe, zLe, zTo, fillS, wantG, vBox, Value.cells, one, putAt, TYA, hr, bdT3]
 first
 | exact ⟨rfl, by repeat first | assumption | exact EXn.refl _ _ | refine EXn.more ?_ _ | refine EXn.put ?_ (by omega) _ | refine EX.trans ?_ (by assumption)⟩
 | (repeat first | assumption | exact EXn.refl _ _ | refine EXn.more ?_ _ | refine EXn.put ?_ (by omega) _ | refine EX.trans ?_ (by assumption))
theorem refVar_spec (σ : St) (p s : ByteArray) : wpc Tryz.prog 56 #[.agg #[.string p, .string s]] σ fun r σ' => r = varV p s ∧ EX σ σ' := by
 refine body_go Tryz.func56 rfl ?_
 have hr := Tryz.results56
 simp only [c_seq, RUNA, RUNB, zAd, zMo, zDi, zSu, zMu, zEq, zBe, zLe, zTo, fillS, wantG, vBox, Value.cells, one, putAt, TYA, hr, bdT1]
 first
 | exact ⟨rfl, by repeat first | assumption | exact EXn.refl _ _ | refine EXn.more ?_ _ | refine EXn.put ?_ (by omega) _ | refine EX.trans ?_ (by assumption)⟩
 | (repeat first | assumption | exact EXn.refl _ _ | refine EXn.more ?_ _ | refine EXn.put ?_ (by omega) _ | refine EX.trans ?_ (by assumption))
theorem Var_spec (σ : St) (p s : ByteArray) : wpc Tryz.prog 71 #[.agg #[.string p, .string s]] σ fun r σ' => r = varV p s ∧ EX σ σ' := by
 refine body_go Tryz.func71 rfl ?_
 have hr := Tryz.results71
 simp only [c_seq, RUNA, RUNB, zAd, zMo, zDi, zSu, zMu, zEq, zBe, zLe, zTo, fillS, wantG, vBox, Value.cells, one, putAt, TYA, hr, bdT1]
 first
 | exact ⟨rfl, by repeat first | assumption | exact EXn.refl _ _ | refine EXn.more ?_ _ | refine EXn.put ?_ (by omega) _ | refine EX.trans ?_ (by assumption)⟩
 | (repeat first | assumption | exact EXn.refl _ _ | refine EXn.more ?_ _ | refine EXn.put ?_ (by omega) _ | refine EX.trans ?_ (by assumption))
theorem refConst_spec (σ : St) (o : Ob) : wpc Tryz.prog 18 #[.agg #[.int .i64 o.k, .string o.n, .string o.d, .string o.p, .string o.s, .string o.t, .slice none 0 0]] σ fun r σ' => r = conV o ∧ EX σ σ' := by
 refine body_go Tryz.func18 rfl ?_
 have hr := Tryz.results18
 simp only [c_seq, RUNA, RUNB, zAd, zMo, zDi, zSu, zMu, zEq, zBe, zLe, zTo, fillS, wantG, vBox, Value.cells, one, putAt, TYA, hr, bdT2]
 first
 | exact ⟨rfl, by repeat first | assumption | exact EXn.refl _ _ | refine EXn.more ?_ _ | refine EXn.put ?_ (by omega) _ | refine EX.trans ?_ (by assumption)⟩
 | (repeat first | assumption | exact EXn.refl _ _ | refine EXn.more ?_ _ | refine EXn.put ?_ (by omega) _ | refine EX.trans ?_ (by assumption))
theorem Const_spec (σ : St) (o : Ob) : wpc Tryz.prog 93 #[.agg #[.int .i64 o.k, .string o.n, .string o.d, .string o.p, .string o.s, .string o.t, .slice none 0 0]] σ fun r σ' => r = conV o ∧ EX σ σ' := by
 refine body_go Tryz.func93 rfl ?_
 have hr := Tryz.results93
 simp only [c_seq, RUNA, RUNB, zAd, zMo, zDi, zSu, zMu, zEq, zBe, zLe, zTo, fillS, wantG, vBox, Value.cells, one, putAt, TYA, hr, bdT2]
 first
 | exact ⟨rfl, by repeat first | assumption | exact EXn.refl _ _ | refine EXn.more ?_ _ | refine EXn.put ?_ (by omega) _ | refine EX.trans ?_ (by assumption)⟩
 | (repeat first | assumption | exact EXn.refl _ _ | refine EXn.more ?_ _ | refine EXn.put ?_ (by omega) _ | refine EX.trans ?_ (by assumption))
end Go.Proofs.Q
namespace Go.Proofs.Q
open Go.AI
abbrev Sy := ByteArray × ByteArray
def flatY : List Sy → List Value
 | [] => []
 | y :: l => [.string y.1, .string y.2] ++ flatY l
theorem flatY_length (l : List Sy) : (flatY l).length = l.length * 2 := by
 induction l with
 | nil => rfl
 | cons y l ih => simp [flatY, ih]; omega
theorem flatY_append (l k : List Sy) : flatY (l ++ k) = flatY l ++ flatY k := by
 induction l with
 | nil => rfl
 | cons y l ih => simp [flatY, ih]
abbrev m2 (m : Mta) : Mta := { m with z := 2 }
theorem m2_eq {m : Mta} (h : m.z = 2) : m2 m = m := by cases m; simp only at h; subst h; rfl
def YL (σ : St) (v : Value) (l : List Sy) : Prop := ∃ a c, v = .slice a l.length c ∧ (l ≠ [] → ∃ id off row m, a = some ⟨id, off, none⟩ ∧ id < σ.next ∧ σ.row id = some (row, m2 m) ∧ (row.drop off).take (l.length * 2) = flatY l)
theorem YL.mono {σ σ' : St} {v : Value} {l : List Sy} (h : YL σ v l) (e : EX σ σ') : YL σ' v l := by
 obtain ⟨a, c, h1, h2⟩ := h
 refine ⟨a, c, h1, fun hl => ?_⟩
 obtain ⟨id, off, row, m, g1, g2, g3, g4⟩ := h2 hl
 exact ⟨id, off, row, m, g1, by have := e.next; omega, (e.row id g2).trans g3, g4⟩
def yx (l : List Sy) (i : Nat) : Sy := l.getD i (es, es)
theorem flatY_cut : ∀ (l : List Sy) (i : Nat), i < l.length → ((flatY l).drop (i * 2)).take 2 = [.string (yx l i).1, .string (yx l i).2] := by
 intro l
 induction l with
 | nil => intro i hi; simp at hi
 | cons y l ih =>
  intro i hi
  cases i with
  | zero => simp [flatY, yx]
  | succ i =>
   have := ih i (by simpa using hi)
   rw [flatY, show (i + 1) * 2 = 2 + i * 2 by omega, ← List.drop_drop]
   simpa [yx] using this
theorem row_cutY {row : List Value} {off : Nat} {l : List Sy} (h : (row.drop off).take (l.length * 2) = flatY l) {i : Nat} (hi : i < l.length) : cut row (off + i * 2) 2 = some [.string (yx l i).1, .string (yx l i).2] := by
 have hlen : l.length * 2 ≤ row.length - off := by
  have := congrArg List.length h
  rw [flatY_length, List.length_take, List.length_drop] at this; omega
 rw [cut_go (by omega)]
 rw [← flatY_cut l i hi, ← h, List.drop_take, List.drop_drop, List.take_take]
 congr 2; omega
def idxY (v : Sy) : List Sy → Int → Int
 | [], _ => -1
 | y :: l, k => if y = v then k else idxY v l (k + 1)
theorem index_spec {σ : St} {v : Value} {l : List Sy} (y : Sy) (h : YL σ v l) (hl : l.length < 1000) : wpc Tryz.prog 63 #[v, .agg #[.string y.1, .string y.2]] σ fun r σ' => r = .int .i64 (idxY y l 0) ∧ EX σ σ' := by
 obtain ⟨a, c, rfl, h2⟩ := h
 refine body_go Tryz.func63 rfl ?_
 have hr := Tryz.results63
 simp only [c_seq, RUNA, RUNB, zAd, zMo, zDi, zSu, zMu, zEq, zBe, zLe, zTo, fillS, wantG, vBox, Value.cells, one, putAt, TYA, hr]
 refine loop_go (fun m S τ => S.at 0 = .slice a l.length c ∧ S.at 3 = .pointer (some ⟨σ.next, 0, none⟩) ∧ EX σ τ ∧ σ.next < τ.next ∧ τ.row σ.next = some ([.string y.1, .string y.2], boxMeta) ∧
  ∃ i : Nat, S.at 5 = .int .i64 i ∧ i ≤ l.length ∧ m = l.length - i ∧ idxY y l 0 = idxY y (l.drop i) i) l.length ?_ ?_
 ·simp only [c_seq, RUNA, RUNB, zAd, zMo, zDi, zSu, zMu, zEq, zBe, zLe, zTo, fillS, wantG, vBox, Value.cells, one, putAt]
  exact ⟨by repeat first | assumption | exact EXn.refl _ _ | refine EXn.more ?_ _ | refine EXn.put ?_ (by omega) _ | refine EX.trans ?_ (by assumption), by omega, 0, rfl, by omega, by omega, rfl⟩
 rintro _ S τ ⟨s0, s3, hE, hn, hb, i, s5, hi, rfl, hx⟩
 by_cases hlt : i < l.length
 ·have hd : decide ((i : Int) < (l.length : Int)) = true := by simp; omega
  obtain ⟨id, off, row, m, rfl, g2, g3, g4⟩ := h2 (by intro e; rw [e] at hlt; simp at hlt)
  have g3' := (hE.row id g2).trans g3
  have z2 : (0 : Int) ≤ (i : Int) := by omega
  have z3 : (i : Int) < (l.length : Int) := by omega
  have hc := row_cutY g4 hlt
  have hdrop : l.drop i = yx l i :: l.drop (i + 1) := by
   rw [List.drop_eq_getElem_cons hlt]; simp [yx, hlt]
  simp only [c_seq, RUNA, RUNB, zAd, zMo, zDi, zSu, zMu, zEq, zBe, zLe, zTo, fillS, wantG, vBox, Value.cells, one, putAt, TYA, s0, s3, s5, hd]
  refine d_go (ms := [0, 0, 3, 7, 0, 31]) (order := [0, 1, 2, 3, 4, 5]) (by kernel_rfl) (by kernel_rfl) (by kernel_rfl) (by kernel_rfl) ?_
  by_cases he : yx l i = y
  ·have hq : decide ((yx l i).1 = y.1 ∧ (yx l i).2 = y.2) = true := by rw [he]; simp
   simp only [YRUNA, YRUNB, zSh, bit, c_seq, RUNA, RUNB, zAd, zMo, zDi, zSu, zMu, zEq, zBe, zLe, zTo, fillS, wantG, vBox, Value.cells, one, putAt, TYA, s0, s3, s5, hb, ia37 z2 z3, Int.toNat_natCast, g3', hc, eqY, hq, hr]
   rw [hx, hdrop, idxY, if_pos he]
   exact ⟨rfl, by repeat first | assumption | exact EXn.refl _ _ | refine EXn.more ?_ _ | refine EXn.put ?_ (by omega) _ | refine EX.trans ?_ (by assumption)⟩
  ·have hq : decide ((yx l i).1 = y.1 ∧ (yx l i).2 = y.2) = false := by
    apply decide_eq_false; intro h; exact he (Prod.ext h.1 h.2)
   have hw : IntKind.i64.wrap ((i : Int) + 1) = ((i + 1 : Nat) : Int) := by rw [wrap64 (by omega) (by omega)]; rfl
   simp only [YRUNA, YRUNB, zSh, bit, c_seq, RUNA, RUNB, zAd, zMo, zDi, zSu, zMu, zEq, zBe, zLe, zTo, fillS, wantG, vBox, Value.cells, one, putAt, TYA, s0, s3, s5, hb, ia37 z2 z3, Int.toNat_natCast, g3', hc, eqY, hq, hw]
   refine ⟨l.length - (i + 1), by omega, ?_, by omega, i + 1, rfl, by omega, rfl, ?_⟩
   ·repeat first | assumption | exact EXn.refl _ _ | refine EXn.more ?_ _ | refine EXn.put ?_ (by omega) _ | refine EX.trans ?_ (by assumption)
   ·rw [hx, hdrop, idxY, if_neg he]; rfl
 ·have hd : decide ((i : Int) < (l.length : Int)) = false := by simp; omega
  have hi' : l.drop i = [] := List.drop_eq_nil_of_le (by omega)
  simp only [c_seq, RUNA, RUNB, zAd, zMo, zDi, zSu, zMu, zEq, zBe, zLe, zTo, fillS, wantG, vBox, Value.cells, one, putAt, TYA, s0, s3, s5, hd, hr]
  rw [hx, hi', idxY]
  exact ⟨rfl, by repeat first | assumption | exact EXn.refl _ _ | refine EXn.more ?_ _ | refine EXn.put ?_ (by omega) _ | refine EX.trans ?_ (by assumption)⟩
end Go.Proofs.Q
namespace Go.Proofs.Q
open Go.AI
theorem drop_yx {l : List Sy} {i : Nat} (h : i < l.length) : l.drop i = yx l i :: l.drop (i + 1) := by
 rw [List.drop_eq_getElem_cons h]; simp [yx, h]
theorem position_spec {σ : St} {v : Value} {l : List Sy} (y : Sy) (h : YL σ v l) (hl : l.length < 1000) : wpc Tryz.prog 59 #[v, .agg #[.string y.1, .string y.2]] σ fun r σ' => r = .int .i64 (idxY y l 0) ∧ EX σ σ' := by
 obtain ⟨a, c, rfl, h2⟩ := h
 refine body_go Tryz.func59 rfl ?_
 have hr := Tryz.results59
 simp only [c_seq, RUNA, RUNB, zAd, zMo, zDi, zSu, zMu, zEq, zBe, zLe, zTo, fillS, wantG, vBox, Value.cells, one, putAt, TYA, hr]
 refine loop_go (fun m S τ => S.at 7 = .slice a l.length c ∧ S.at 8 = .int .i64 l.length ∧ S.at 3 = .pointer (some ⟨σ.next, 0, none⟩) ∧ EX σ τ ∧ σ.next < τ.next ∧ τ.row σ.next = some ([.string y.1, .string y.2], boxMeta) ∧
  ∃ i : Nat, S.at 9 = .int .i64 i ∧ i ≤ l.length ∧ m = l.length - i ∧ idxY y l 0 = idxY y (l.drop i) i) l.length ?_ ?_
 ·simp only [c_seq, RUNA, RUNB, zAd, zMo, zDi, zSu, zMu, zEq, zBe, zLe, zTo, fillS, wantG, vBox, Value.cells, one, putAt]
  exact ⟨by repeat first | assumption | exact EXn.refl _ _ | refine EXn.more ?_ _ | refine EXn.put ?_ (by omega) _ | refine EX.trans ?_ (by assumption), by omega, 0, rfl, by omega, by omega, rfl⟩
 rintro _ S τ ⟨s7, s8, s3, hE, hn, hb, i, s9, hi, rfl, hx⟩
 by_cases hlt : i < l.length
 ·have hd : decide ((i : Int) < (l.length : Int)) = true := by simp; omega
  obtain ⟨id, off, row, m, rfl, g2, g3, g4⟩ := h2 (by intro e; rw [e] at hlt; simp at hlt)
  have g3' := (hE.row id g2).trans g3
  have z2 : (0 : Int) ≤ (i : Int) := by omega
  have z3 : (i : Int) < (l.length : Int) := by omega
  have hc := row_cutY g4 hlt
  have q1 : ∀ k, ¬ σ.next = τ.next + k := fun k => by omega
  have q2 : ∀ k, ¬ id = τ.next + k := fun k => by omega
  have hw : IntKind.i64.wrap ((i : Int) + 1) = ((i + 1 : Nat) : Int) := by rw [wrap64 (by omega) (by omega)]; rfl
  by_cases he : yx l i = y
  ·have hq : decide ((yx l i).1 = y.1 ∧ (yx l i).2 = y.2) = true := by rw [he]; simp
   simp only [c_seq, RUNA, RUNB, zAd, zMo, zDi, zSu, zMu, zEq, zBe, zLe, zTo, fillS, wantG, vBox, Value.cells, one, putAt, TYA, s7, s8, s3, s9, hd, hb, ia37 z2 z3, Int.toNat_natCast, g3', hc, eqY, hq, hr, q1, q2]
   rw [hx, drop_yx hlt, idxY, if_pos he]
   exact ⟨rfl, by repeat first | assumption | exact EXn.refl _ _ | refine EXn.more ?_ _ | refine EXn.put ?_ (by omega) _ | refine EX.trans ?_ (by assumption)⟩
  ·have hq : decide ((yx l i).1 = y.1 ∧ (yx l i).2 = y.2) = false := by
    apply decide_eq_false; intro h; exact he (Prod.ext h.1 h.2)
   simp only [c_seq, RUNA, RUNB, zAd, zMo, zDi, zSu, zMu, zEq, zBe, zLe, zTo, fillS, wantG, vBox, Value.cells, one, putAt, TYA, s7, s8, s3, s9, hd, hb, ia37 z2 z3, Int.toNat_natCast, g3', hc, eqY, hq, hw, q1, q2]
   refine ⟨l.length - (i + 1), by omega, ?_, by omega, i + 1, rfl, by omega, rfl, ?_⟩
   ·repeat first | assumption | exact EXn.refl _ _ | refine EXn.more ?_ _ | refine EXn.put ?_ (by omega) _ | refine EX.trans ?_ (by assumption)
   ·rw [hx, drop_yx hlt, idxY, if_neg he]; rfl
 ·have hd : decide ((i : Int) < (l.length : Int)) = false := by simp; omega
  have hi' : l.drop i = [] := List.drop_eq_nil_of_le (by omega)
  simp only [c_seq, RUNA, RUNB, zAd, zMo, zDi, zSu, zMu, zEq, zBe, zLe, zTo, fillS, wantG, vBox, Value.cells, one, putAt, TYA, s7, s8, s3, s9, hd, hr]
  rw [hx, hi', idxY]
  exact ⟨rfl, by repeat first | assumption | exact EXn.refl _ _ | refine EXn.more ?_ _ | refine EXn.put ?_ (by omega) _ | refine EX.trans ?_ (by assumption)⟩
def ckVs (l : List Sy) : List Sy → Int → Int
 | [], _ => 0
 | y :: r, k => if idxY y l 0 = k then ckVs l r (k + 1) else 4
def ckY (l : List Sy) : Int := if 10 < l.length then 45 else ckVs l l 0
theorem checked_spec {σ : St} {v : Value} {l : List Sy} (h : YL σ v l) (hl : l.length < 1000) : wpc Tryz.prog 26 #[v] σ fun r σ' => r = .int .i64 (ckY l) ∧ EX σ σ' := by
 have h0 := h
 obtain ⟨a, c, rfl, h2⟩ := h
 refine body_go Tryz.func26 rfl ?_
 have hr := Tryz.results26
 by_cases h10 : 10 < l.length
 ·have hd : decide ((10 : Int) < (l.length : Int)) = true := by simp; omega
  simp only [c_seq, RUNA, RUNB, zAd, zMo, zDi, zSu, zMu, zEq, zBe, zLe, zTo, fillS, wantG, vBox, Value.cells, one, putAt, TYA, hr, hd]
  exact ⟨by rw [ckY, if_pos h10], by repeat first | assumption | exact EXn.refl _ _ | refine EXn.more ?_ _ | refine EXn.put ?_ (by omega) _ | refine EX.trans ?_ (by assumption)⟩
 have hd : decide ((10 : Int) < (l.length : Int)) = false := by simp; omega
 simp only [c_seq, RUNA, RUNB, zAd, zMo, zDi, zSu, zMu, zEq, zBe, zLe, zTo, fillS, wantG, vBox, Value.cells, one, putAt, TYA, hr, hd]
 rw [ckY, if_neg h10]
 refine loop_go (fun m S τ => S.at 0 = .slice a l.length c ∧ EX σ τ ∧ ∃ i : Nat, S.at 3 = .int .i64 i ∧ i ≤ l.length ∧ m = l.length - i ∧ ckVs l l 0 = ckVs l (l.drop i) i) l.length ?_ ?_
 ·simp only [c_seq, RUNA, RUNB, zAd, zMo, zDi, zSu, zMu, zEq, zBe, zLe, zTo, fillS, wantG, vBox, Value.cells, one, putAt]
  exact ⟨by repeat first | assumption | exact EXn.refl _ _ | refine EXn.more ?_ _ | refine EXn.put ?_ (by omega) _ | refine EX.trans ?_ (by assumption), 0, rfl, by omega, by omega, rfl⟩
 rintro _ S τ ⟨s0, hE, i, s3, hi, rfl, hx⟩
 by_cases hlt : i < l.length
 ·have hd : decide ((i : Int) < (l.length : Int)) = true := by simp; omega
  obtain ⟨id, off, row, m, rfl, g2, g3, g4⟩ := h2 (by intro e; rw [e] at hlt; simp at hlt)
  have g3' := (hE.row id g2).trans g3
  have z2 : (0 : Int) ≤ (i : Int) := by omega
  have z3 : (i : Int) < (l.length : Int) := by omega
  have hc := row_cutY g4 hlt
  have hw : IntKind.i64.wrap ((i : Int) + 1) = ((i + 1 : Nat) : Int) := by rw [wrap64 (by omega) (by omega)]; rfl
  simp only [c_seq, RUNA, RUNB, zAd, zMo, zDi, zSu, zMu, zEq, zBe, zLe, zTo, fillS, wantG, vBox, Value.cells, one, putAt, TYA, s0, s3, hd, ia37 z2 z3, Int.toNat_natCast, g3', hc]
  refine wpc_mono (index_spec (yx l i) (h0.mono ?_) hl) ?_
  ·repeat first | assumption | exact EXn.refl _ _ | refine EXn.more ?_ _ | refine EXn.put ?_ (by omega) _ | refine EX.trans ?_ (by assumption)
  rintro r σ2 ⟨rfl, hE2⟩
  have e2 : EX σ σ2 := by refine EX.trans ?_ hE2; repeat first | assumption | exact EXn.refl _ _ | refine EXn.more ?_ _ | refine EXn.put ?_ (by omega) _ | refine EX.trans ?_ (by assumption)
  by_cases he : idxY (yx l i) l 0 = (i : Int)
  ·have hq : ((idxY (yx l i) l 0 : Int) != (i : Int)) = false := by simp [he]
   simp only [c_seq, RUNA, RUNB, zAd, zMo, zDi, zSu, zMu, zEq, zBe, zLe, zTo, fillS, wantG, vBox, Value.cells, one, putAt, TYA, s0, s3, hq, hw]
   refine ⟨l.length - (i + 1), by omega, ?_, i + 1, rfl, by omega, rfl, ?_⟩
   ·repeat first | assumption | exact EXn.refl _ _ | refine EXn.more ?_ _ | refine EXn.put ?_ (by omega) _ | refine EX.trans ?_ (by assumption)
   ·rw [hx, drop_yx hlt, ckVs, if_pos he]; rfl
  ·have hq : ((idxY (yx l i) l 0 : Int) != (i : Int)) = true := by simp [he]
   simp only [c_seq, RUNA, RUNB, zAd, zMo, zDi, zSu, zMu, zEq, zBe, zLe, zTo, fillS, wantG, vBox, Value.cells, one, putAt, TYA, s0, s3, hq, hr]
   rw [hx, drop_yx hlt, ckVs, if_neg he]
   exact ⟨rfl, by repeat first | assumption | exact EXn.refl _ _ | refine EXn.more ?_ _ | refine EXn.put ?_ (by omega) _ | refine EX.trans ?_ (by assumption)⟩
 ·have hd : decide ((i : Int) < (l.length : Int)) = false := by simp; omega
  have hi' : l.drop i = [] := List.drop_eq_nil_of_le (by omega)
  simp only [c_seq, RUNA, RUNB, zAd, zMo, zDi, zSu, zMu, zEq, zBe, zLe, zTo, fillS, wantG, vBox, Value.cells, one, putAt, TYA, s0, s3, hd, hr]
  rw [hx, hi', ckVs]
  exact ⟨rfl, by repeat first | assumption | exact EXn.refl _ _ | refine EXn.more ?_ _ | refine EXn.put ?_ (by omega) _ | refine EX.trans ?_ (by assumption)⟩
def nIf : ByteArray := ⟨#[105, 102]⟩
def nNot : ByteArray := ⟨#[110, 111, 116]⟩
def nImp : ByteArray := ⟨#[105, 109, 112, 108, 105, 101, 115]⟩
def nIff : ByteArray := ⟨#[105, 102, 102]⟩
def propB (t : PT) : Bool := isB t nIf 3 || (isB t nNot 1 || (isB t nImp 2 || isB t nIff 2))
theorem propositional_spec {σ : St} {v : Value} {t : PT} (h : TV σ v t) : wpc Tryz.prog 60 #[v] σ fun r σ' => r = .bool (propB t) ∧ EX σ σ' := by
 have h0 := h
 obtain ⟨a, c, rfl, -⟩ := h.open
 refine body_go Tryz.func60 rfl ?_
 have hr := Tryz.results60
 unfold propB
 simp only [c_seq, RUNA, RUNB, zAd, zMo, zDi, zSu, zMu, zEq, zBe, zLe, zTo, fillS, wantG, vBox, Value.cells, one, putAt, TYA, hr]
 refine wpc_mono (Is_spec (h0.mono ?_) nIf 3) ?_
 ·repeat first | assumption | exact EXn.refl _ _ | refine EXn.more ?_ _ | refine EXn.put ?_ (by omega) _ | refine EX.trans ?_ (by assumption)
 rintro r σ1 ⟨rfl, hE1⟩
 have r1 : σ1.row σ.next = some (tcell t a c, boxMeta) := by rw [hE1.row _ (by first | omega | (simp only [next_more, next_put] at *; omega))]; simp only [c_seq, RUNA, RUNB, zAd, zMo, zDi, zSu, zMu, zEq, zBe, zLe, zTo, fillS, wantG, vBox, Value.cells, one, putAt, tcell]
 simp only [tcell] at r1
 have e1 : EX σ σ1 := by refine EX.trans ?_ hE1; repeat first | assumption | exact EXn.refl _ _ | refine EXn.more ?_ _ | refine EXn.put ?_ (by omega) _ | refine EX.trans ?_ (by assumption)
 have n1 : σ.next < σ1.next := by have := hE1.next; simp only [next_more, next_put] at this; omega
 cases isB t nIf 3 with
 | true =>
  simp only [c_seq, RUNA, RUNB, zAd, zMo, zDi, zSu, zMu, zEq, zBe, zLe, zTo, fillS, wantG, vBox, Value.cells, one, putAt, TYA, hr, r1]
  exact ⟨rfl, by repeat first | assumption | exact EXn.refl _ _ | refine EXn.more ?_ _ | refine EXn.put ?_ (by omega) _ | refine EX.trans ?_ (by assumption)⟩
 | false =>
  simp only [c_seq, RUNA, RUNB, zAd, zMo, zDi, zSu, zMu, zEq, zBe, zLe, zTo, fillS, wantG, vBox, Value.cells, one, putAt, TYA, hr, r1]
  refine wpc_mono (Is_spec (h0.mono ?_) nNot 1) ?_
  ·repeat first | assumption | exact EXn.refl _ _ | refine EXn.more ?_ _ | refine EXn.put ?_ (by omega) _ | refine EX.trans ?_ (by assumption)
  rintro r σ2 ⟨rfl, hE2⟩
  have r2 := (hE2.row σ.next n1).trans r1
  have e2 : EX σ σ2 := by refine EX.trans ?_ hE2; repeat first | assumption | exact EXn.refl _ _ | refine EXn.more ?_ _ | refine EXn.put ?_ (by omega) _ | refine EX.trans ?_ (by assumption)
  have n2 : σ.next < σ2.next := by have := hE2.next; omega
  cases isB t nNot 1 with
  | true =>
   simp only [c_seq, RUNA, RUNB, zAd, zMo, zDi, zSu, zMu, zEq, zBe, zLe, zTo, fillS, wantG, vBox, Value.cells, one, putAt, TYA, hr, r2]
   exact ⟨rfl, by repeat first | assumption | exact EXn.refl _ _ | refine EXn.more ?_ _ | refine EXn.put ?_ (by omega) _ | refine EX.trans ?_ (by assumption)⟩
  | false =>
   simp only [c_seq, RUNA, RUNB, zAd, zMo, zDi, zSu, zMu, zEq, zBe, zLe, zTo, fillS, wantG, vBox, Value.cells, one, putAt, TYA, hr, r2]
   refine wpc_mono (Is_spec (h0.mono ?_) nImp 2) ?_
   ·repeat first | assumption | exact EXn.refl _ _ | refine EXn.more ?_ _ | refine EXn.put ?_ (by omega) _ | refine EX.trans ?_ (by assumption)
   rintro r σ3 ⟨rfl, hE3⟩
   have r3 := (hE3.row σ.next n2).trans r2
   have e3 : EX σ σ3 := by refine EX.trans ?_ hE3; repeat first | assumption | exact EXn.refl _ _ | refine EXn.more ?_ _ | refine EXn.put ?_ (by omega) _ | refine EX.trans ?_ (by assumption)
   have n3 : σ.next < σ3.next := by have := hE3.next; omega
   cases isB t nImp 2 with
   | true =>
    simp only [c_seq, RUNA, RUNB, zAd, zMo, zDi, zSu, zMu, zEq, zBe, zLe, zTo, fillS, wantG, vBox, Value.cells, one, putAt, TYA, hr, r3]
    exact ⟨rfl, by repeat first | assumption | exact EXn.refl _ _ | refine EXn.more ?_ _ | refine EXn.put ?_ (by omega) _ | refine EX.trans ?_ (by assumption)⟩
   | false =>
    simp only [c_seq, RUNA, RUNB, zAd, zMo, zDi, zSu, zMu, zEq, zBe, zLe, zTo, fillS, wantG, vBox, Value.cells, one, putAt, TYA, hr, r3]
    refine wpc_mono (Is_spec (h0.mono ?_) nIff 2) ?_
    ·repeat first | assumption | exact EXn.refl _ _ | refine EXn.more ?_ _ | refine EXn.put ?_ (by omega) _ | refine EX.trans ?_ (by assumption)
    rintro r σ4 ⟨rfl, hE4⟩
    have r4 := (hE4.row σ.next n3).trans r3
    have e4 : EX σ σ4 := by refine EX.trans ?_ hE4; repeat first | assumption | exact EXn.refl _ _ | refine EXn.more ?_ _ | refine EXn.put ?_ (by omega) _ | refine EX.trans ?_ (by assumption)
    have n4 : σ.next < σ4.next := by have := hE4.next; omega
    simp only [c_seq, RUNA, RUNB, zAd, zMo, zDi, zSu, zMu, zEq, zBe, zLe, zTo, fillS, wantG, vBox, Value.cells, one, putAt, TYA, hr, r4]
    exact ⟨by simp, by repeat first | assumption | exact EXn.refl _ _ | refine EXn.more ?_ _ | refine EXn.put ?_ (by omega) _ | refine EX.trans ?_ (by assumption)⟩
end Go.Proofs.Q
namespace Go.Proofs.Q
open Go.AI
set_option maxRecDepth 4000
def nNil : ByteArray := ⟨#[110, 105, 108]⟩
def obNil : Ob := ⟨2, es, es, lsp, nNil, es⟩
def obT : Ob := ⟨2, es, es, lsp, ⟨#[116]⟩, es⟩
def nilB (o : Ob) : Bool := decide (o.k = 2) && decide (o.p = lsp ∧ o.s = nNil)
theorem IsNil_spec (σ : St) (o : Ob) : wpc Tryz.prog 61 #[.agg #[.int .i64 o.k, .string o.n, .string o.d, .string o.p, .string o.s, .string o.t, .slice none 0 0]] σ fun r σ' => r = .bool (nilB o) ∧ EX σ σ' := by
 refine body_go Tryz.func61 rfl ?_
 have hr := Tryz.results61
 unfold nilB
 by_cases h3 : o.k = 2
 ·have g1 : (o.k == (2 : Int)) = true := by simp [h3]
  by_cases h4 : o.p = lsp ∧ o.s = nNil
  ·have g2 : decide (o.p = ⟨#[108, 105, 115, 112]⟩ ∧ o.s = ⟨#[110, 105, 108]⟩) = true := decide_eq_true h4
   simp only [c_seq, RUNA, RUNB, zAd, zMo, zDi, zSu, zMu, zEq, zBe, zLe, zTo, fillS, wantG, vBox, Value.cells, one, putAt, TYA, hr, g1, bdSym, eqY, g2]
   exact ⟨by simp [h3, h4], by repeat first | assumption | exact EXn.refl _ _ | refine EXn.more ?_ _ | refine EXn.put ?_ (by omega) _ | refine EX.trans ?_ (by assumption)⟩
  ·have g2 : decide (o.p = ⟨#[108, 105, 115, 112]⟩ ∧ o.s = ⟨#[110, 105, 108]⟩) = false := decide_eq_false h4
   simp only [c_seq, RUNA, RUNB, zAd, zMo, zDi, zSu, zMu, zEq, zBe, zLe, zTo, fillS, wantG, vBox, Value.cells, one, putAt, TYA, hr, g1, bdSym, eqY, g2]
   exact ⟨by rw [decide_eq_false h4]; simp, by repeat first | assumption | exact EXn.refl _ _ | refine EXn.more ?_ _ | refine EXn.put ?_ (by omega) _ | refine EX.trans ?_ (by assumption)⟩
 ·have g1 : (o.k == (2 : Int)) = false := by simp [h3]
  simp only [c_seq, RUNA, RUNB, zAd, zMo, zDi, zSu, zMu, zEq, zBe, zLe, zTo, fillS, wantG, vBox, Value.cells, one, putAt, TYA, hr, g1]
  exact ⟨by simp [h3], by repeat first | assumption | exact EXn.refl _ _ | refine EXn.more ?_ _ | refine EXn.put ?_ (by omega) _ | refine EX.trans ?_ (by assumption)⟩
def obB (o u : Ob) : Bool := decide (o.k = u.k) && (decide (o.n = u.n) && (decide (o.d = u.d) && (decide (o.p = u.p ∧ o.s = u.s) && decide (o.t = u.t))))
theorem obB_rfl (o : Ob) : obB o o = true := by simp [obB]
theorem refEqO_spec (σ : St) (o u : Ob) : wpc Tryz.prog 43 #[.agg #[.int .i64 o.k, .string o.n, .string o.d, .string o.p, .string o.s, .string o.t, .slice none 0 0], .agg #[.int .i64 u.k, .string u.n, .string u.d, .string u.p, .string u.s, .string u.t, .slice none 0 0]] σ fun r σ' => r = .bool (obB o u) ∧ EX σ σ' := by
 refine body_go Tryz.func43 rfl ?_
 have hr := Tryz.results43
 unfold obB
 by_cases h0 : o.k = u.k
 ·have g0 : (o.k != u.k) = false := by simp [h0]
  by_cases h1 : o.n = u.n
  ·have g1 : decide (o.n = u.n) = true := decide_eq_true h1
   by_cases h2 : o.d = u.d
   ·have g2 : decide (o.d = u.d) = true := decide_eq_true h2
    by_cases h3 : o.p = u.p ∧ o.s = u.s
    ·have g3 : decide (o.p = u.p ∧ o.s = u.s) = true := decide_eq_true h3
     by_cases h4 : o.t = u.t
     ·have g4 : decide (o.t = u.t) = true := decide_eq_true h4
      have hz : (((0 : Nat) : Int) != ((0 : Nat) : Int)) = false := rfl
      simp only [c_seq, RUNA, RUNB, zAd, zMo, zDi, zSu, zMu, zEq, zBe, zLe, zTo, fillS, wantG, vBox, Value.cells, one, putAt, TYA, hr, neS, neY, g0, g1, g2, g3, g4, hz, Bool.not_true, Bool.not_false]
      refine loop_go (fun m S τ => S.at 5 = .int .i64 0 ∧ S.at 2 = .pointer (some ⟨σ.next, 0, none⟩) ∧ EX σ τ ∧ τ.row σ.next = some ([.int .i64 o.k, .string o.n, .string o.d, .string o.p, .string o.s, .string o.t, .slice none 0 0], boxMeta) ∧ m = 0) 0 ?_ ?_
      ·simp only [c_seq, RUNA, RUNB, zAd, zMo, zDi, zSu, zMu, zEq, zBe, zLe, zTo, fillS, wantG, vBox, Value.cells, one, putAt]
       exact by repeat first | assumption | exact EXn.refl _ _ | refine EXn.more ?_ _ | refine EXn.put ?_ (by omega) _ | refine EX.trans ?_ (by assumption)
      rintro _ S τ ⟨s5, s2, hE, hb, rfl⟩
      have hd : decide ((0 : Int) < ((0 : Nat) : Int)) = false := rfl
      simp only [c_seq, RUNA, RUNB, zAd, zMo, zDi, zSu, zMu, zEq, zBe, zLe, zTo, fillS, wantG, vBox, Value.cells, one, putAt, TYA, s5, s2, hb, hd, hr]
      exact ⟨by simp [h0, h1, h2, h3, h4], by repeat first | assumption | exact EXn.refl _ _ | refine EXn.more ?_ _ | refine EXn.put ?_ (by omega) _ | refine EX.trans ?_ (by assumption)⟩
     ·have g4 : decide (o.t = u.t) = false := decide_eq_false h4
      simp only [c_seq, RUNA, RUNB, zAd, zMo, zDi, zSu, zMu, zEq, zBe, zLe, zTo, fillS, wantG, vBox, Value.cells, one, putAt, TYA, hr, neS, neY, g0, g1, g2, g3, g4, Bool.not_true, Bool.not_false]
      exact ⟨by simp [h4], by repeat first | assumption | exact EXn.refl _ _ | refine EXn.more ?_ _ | refine EXn.put ?_ (by omega) _ | refine EX.trans ?_ (by assumption)⟩
    ·have g3 : decide (o.p = u.p ∧ o.s = u.s) = false := decide_eq_false h3
     simp only [c_seq, RUNA, RUNB, zAd, zMo, zDi, zSu, zMu, zEq, zBe, zLe, zTo, fillS, wantG, vBox, Value.cells, one, putAt, TYA, hr, neS, neY, g0, g1, g2, g3, Bool.not_true, Bool.not_false]
     exact ⟨by simp [h3], by repeat first | assumption | exact EXn.refl _ _ | refine EXn.more ?_ _ | refine EXn.put ?_ (by omega) _ | refine EX.trans ?_ (by assumption)⟩
   ·have g2 : decide (o.d = u.d) = false := decide_eq_false h2
    simp only [c_seq, RUNA, RUNB, zAd, zMo, zDi, zSu, zMu, zEq, zBe, zLe, zTo, fillS, wantG, vBox, Value.cells, one, putAt, TYA, hr, neS, neY, g0, g1, g2, Bool.not_true, Bool.not_false]
    exact ⟨by simp [h2], by repeat first | assumption | exact EXn.refl _ _ | refine EXn.more ?_ _ | refine EXn.put ?_ (by omega) _ | refine EX.trans ?_ (by assumption)⟩
  ·have g1 : decide (o.n = u.n) = false := decide_eq_false h1
   simp only [c_seq, RUNA, RUNB, zAd, zMo, zDi, zSu, zMu, zEq, zBe, zLe, zTo, fillS, wantG, vBox, Value.cells, one, putAt, TYA, hr, neS, neY, g0, g1, Bool.not_true, Bool.not_false]
   exact ⟨by simp [h1], by repeat first | assumption | exact EXn.refl _ _ | refine EXn.more ?_ _ | refine EXn.put ?_ (by omega) _ | refine EX.trans ?_ (by assumption)⟩
 ·have g0 : (o.k != u.k) = true := by simp [h0]
  simp only [c_seq, RUNA, RUNB, zAd, zMo, zDi, zSu, zMu, zEq, zBe, zLe, zTo, fillS, wantG, vBox, Value.cells, one, putAt, TYA, hr, neS, neY, g0, Bool.not_true, Bool.not_false]
  exact ⟨by simp [h0], by repeat first | assumption | exact EXn.refl _ _ | refine EXn.more ?_ _ | refine EXn.put ?_ (by omega) _ | refine EX.trans ?_ (by assumption)⟩
theorem bdO2 (p s : ByteArray) : abuild Tryz.prog 31 #[(0, .int .i64 2), (3, .agg #[.string p, .string s])] = some (.agg #[.int .i64 2, .string ⟨#[]⟩, .string ⟨#[]⟩, .string p, .string s, .string ⟨#[]⟩, .slice none 0 0]) := by kernel_rfl
theorem refSym_spec (σ : St) (p s : ByteArray) : wpc Tryz.prog 52 #[.agg #[.string p, .string s]] σ fun r σ' => r = .agg #[.int .i64 2, .string ⟨#[]⟩, .string ⟨#[]⟩, .string p, .string s, .string ⟨#[]⟩, .slice none 0 0] ∧ EX σ σ' := by
 refine body_go Tryz.func52 rfl ?_
 have hr := Tryz.results52
 simp only [c_seq, RUNA, RUNB, zAd, zMo, zDi, zSu, zMu, zEq, zBe, zLe, zTo, fillS, wantG, vBox, Value.cells, one, putAt, TYA, hr, bdO2]
 first
 | exact ⟨rfl, by repeat first | assumption | exact EXn.refl _ _ | refine EXn.more ?_ _ | refine EXn.put ?_ (by omega) _ | refine EX.trans ?_ (by assumption)⟩
 | (repeat first | assumption | exact EXn.refl _ _ | refine EXn.more ?_ _ | refine EXn.put ?_ (by omega) _ | refine EX.trans ?_ (by assumption))
theorem oSym_spec (σ : St) (p s : ByteArray) : wpc Tryz.prog 94 #[.agg #[.string p, .string s]] σ fun r σ' => r = .agg #[.int .i64 2, .string ⟨#[]⟩, .string ⟨#[]⟩, .string p, .string s, .string ⟨#[]⟩, .slice none 0 0] ∧ EX σ σ' := by
 refine body_go Tryz.func94 rfl ?_
 have hr := Tryz.results94
 simp only [c_seq, RUNA, RUNB, zAd, zMo, zDi, zSu, zMu, zEq, zBe, zLe, zTo, fillS, wantG, vBox, Value.cells, one, putAt, TYA, hr, bdO2]
 first
 | exact ⟨rfl, by repeat first | assumption | exact EXn.refl _ _ | refine EXn.more ?_ _ | refine EXn.put ?_ (by omega) _ | refine EX.trans ?_ (by assumption)⟩
 | (repeat first | assumption | exact EXn.refl _ _ | refine EXn.more ?_ _ | refine EXn.put ?_ (by omega) _ | refine EX.trans ?_ (by assumption))
theorem refNil_spec (σ : St) : wpc Tryz.prog 48 #[] σ fun r σ' => r = .agg #[.int .i64 obNil.k, .string obNil.n, .string obNil.d, .string obNil.p, .string obNil.s, .string obNil.t, .slice none 0 0] ∧ EX σ σ' := by
 refine body_go Tryz.func48 rfl ?_
 have hr := Tryz.results48
 simp only [c_seq, RUNA, RUNB, zAd, zMo, zDi, zSu, zMu, zEq, zBe, zLe, zTo, fillS, wantG, vBox, Value.cells, one, putAt, TYA, hr]
 refine wpc_mono (refLisp_spec _ _) ?_
 rintro r σ1 ⟨rfl, hE1⟩
 have n1 := hE1.next
 simp only [next_more, next_put] at n1
 have r1 : σ1.row σ.next = some ([.int .i64 0, .string ⟨#[]⟩, .string ⟨#[]⟩, .string ⟨#[]⟩, .string ⟨#[]⟩, .string ⟨#[]⟩, .slice none 0 0], boxMeta) := by rw [hE1.row _ (by first | omega | (simp only [next_more, next_put] at *; omega))]; simp only [c_seq, RUNA, RUNB, zAd, zMo, zDi, zSu, zMu, zEq, zBe, zLe, zTo, fillS, wantG, vBox, Value.cells, one, putAt]
 simp only [c_seq, RUNA, RUNB, zAd, zMo, zDi, zSu, zMu, zEq, zBe, zLe, zTo, fillS, wantG, vBox, Value.cells, one, putAt, TYA, hr]
 refine wpc_mono (refSym_spec _ _ _) ?_
 rintro r σ2 ⟨rfl, hE2⟩
 have n2 := hE2.next
 have r2 := (hE2.row σ.next (by omega)).trans r1
 simp only [c_seq, RUNA, RUNB, zAd, zMo, zDi, zSu, zMu, zEq, zBe, zLe, zTo, fillS, wantG, vBox, Value.cells, one, putAt, TYA, hr, r2]
 first
 | exact ⟨rfl, by repeat first | assumption | exact EXn.refl _ _ | refine EXn.more ?_ _ | refine EXn.put ?_ (by omega) _ | refine EX.trans ?_ (by assumption)⟩
 | (repeat first | assumption | exact EXn.refl _ _ | refine EXn.more ?_ _ | refine EXn.put ?_ (by omega) _ | refine EX.trans ?_ (by assumption))
theorem refT_spec (σ : St) : wpc Tryz.prog 49 #[] σ fun r σ' => r = .agg #[.int .i64 obT.k, .string obT.n, .string obT.d, .string obT.p, .string obT.s, .string obT.t, .slice none 0 0] ∧ EX σ σ' := by
 refine body_go Tryz.func49 rfl ?_
 have hr := Tryz.results49
 simp only [c_seq, RUNA, RUNB, zAd, zMo, zDi, zSu, zMu, zEq, zBe, zLe, zTo, fillS, wantG, vBox, Value.cells, one, putAt, TYA, hr]
 refine wpc_mono (refLisp_spec _ _) ?_
 rintro r σ1 ⟨rfl, hE1⟩
 have n1 := hE1.next
 simp only [next_more, next_put] at n1
 have r1 : σ1.row σ.next = some ([.int .i64 0, .string ⟨#[]⟩, .string ⟨#[]⟩, .string ⟨#[]⟩, .string ⟨#[]⟩, .string ⟨#[]⟩, .slice none 0 0], boxMeta) := by rw [hE1.row _ (by first | omega | (simp only [next_more, next_put] at *; omega))]; simp only [c_seq, RUNA, RUNB, zAd, zMo, zDi, zSu, zMu, zEq, zBe, zLe, zTo, fillS, wantG, vBox, Value.cells, one, putAt]
 simp only [c_seq, RUNA, RUNB, zAd, zMo, zDi, zSu, zMu, zEq, zBe, zLe, zTo, fillS, wantG, vBox, Value.cells, one, putAt, TYA, hr]
 refine wpc_mono (refSym_spec _ _ _) ?_
 rintro r σ2 ⟨rfl, hE2⟩
 have n2 := hE2.next
 have r2 := (hE2.row σ.next (by omega)).trans r1
 simp only [c_seq, RUNA, RUNB, zAd, zMo, zDi, zSu, zMu, zEq, zBe, zLe, zTo, fillS, wantG, vBox, Value.cells, one, putAt, TYA, hr, r2]
 first
 | exact ⟨rfl, by repeat first | assumption | exact EXn.refl _ _ | refine EXn.more ?_ _ | refine EXn.put ?_ (by omega) _ | refine EX.trans ?_ (by assumption)⟩
 | (repeat first | assumption | exact EXn.refl _ _ | refine EXn.more ?_ _ | refine EXn.put ?_ (by omega) _ | refine EX.trans ?_ (by assumption))
theorem oNil_spec (σ : St) : wpc Tryz.prog 79 #[] σ fun r σ' => r = .agg #[.int .i64 obNil.k, .string obNil.n, .string obNil.d, .string obNil.p, .string obNil.s, .string obNil.t, .slice none 0 0] ∧ EX σ σ' := by
 refine body_go Tryz.func79 rfl ?_
 have hr := Tryz.results79
 simp only [c_seq, RUNA, RUNB, zAd, zMo, zDi, zSu, zMu, zEq, zBe, zLe, zTo, fillS, wantG, vBox, Value.cells, one, putAt, TYA, hr, bdSym]
 refine wpc_mono (oSym_spec _ _ _) ?_
 rintro r σ2 ⟨rfl, hE2⟩
 have n2 := hE2.next
 simp only [next_more, next_put] at n2
 have r2 : σ2.row σ.next = some ([.int .i64 0, .string ⟨#[]⟩, .string ⟨#[]⟩, .string ⟨#[]⟩, .string ⟨#[]⟩, .string ⟨#[]⟩, .slice none 0 0], boxMeta) := by rw [hE2.row _ (by first | omega | (simp only [next_more, next_put] at *; omega))]; simp only [c_seq, RUNA, RUNB, zAd, zMo, zDi, zSu, zMu, zEq, zBe, zLe, zTo, fillS, wantG, vBox, Value.cells, one, putAt]
 simp only [c_seq, RUNA, RUNB, zAd, zMo, zDi, zSu, zMu, zEq, zBe, zLe, zTo, fillS, wantG, vBox, Value.cells, one, putAt, TYA, hr, r2]
 first
 | exact ⟨rfl, by repeat first | assumption | exact EXn.refl _ _ | refine EXn.more ?_ _ | refine EXn.put ?_ (by omega) _ | refine EX.trans ?_ (by assumption)⟩
 | (repeat first | assumption | exact EXn.refl _ _ | refine EXn.more ?_ _ | refine EXn.put ?_ (by omega) _ | refine EX.trans ?_ (by assumption))
theorem oT_spec (σ : St) : wpc Tryz.prog 80 #[] σ fun r σ' => r = .agg #[.int .i64 obT.k, .string obT.n, .string obT.d, .string obT.p, .string obT.s, .string obT.t, .slice none 0 0] ∧ EX σ σ' := by
 refine body_go Tryz.func80 rfl ?_
 have hr := Tryz.results80
 simp only [c_seq, RUNA, RUNB, zAd, zMo, zDi, zSu, zMu, zEq, zBe, zLe, zTo, fillS, wantG, vBox, Value.cells, one, putAt, TYA, hr, bdSym]
 refine wpc_mono (oSym_spec _ _ _) ?_
 rintro r σ2 ⟨rfl, hE2⟩
 have n2 := hE2.next
 simp only [next_more, next_put] at n2
 have r2 : σ2.row σ.next = some ([.int .i64 0, .string ⟨#[]⟩, .string ⟨#[]⟩, .string ⟨#[]⟩, .string ⟨#[]⟩, .string ⟨#[]⟩, .slice none 0 0], boxMeta) := by rw [hE2.row _ (by first | omega | (simp only [next_more, next_put] at *; omega))]; simp only [c_seq, RUNA, RUNB, zAd, zMo, zDi, zSu, zMu, zEq, zBe, zLe, zTo, fillS, wantG, vBox, Value.cells, one, putAt]
 simp only [c_seq, RUNA, RUNB, zAd, zMo, zDi, zSu, zMu, zEq, zBe, zLe, zTo, fillS, wantG, vBox, Value.cells, one, putAt, TYA, hr, r2]
 first
 | exact ⟨rfl, by repeat first | assumption | exact EXn.refl _ _ | refine EXn.more ?_ _ | refine EXn.put ?_ (by omega) _ | refine EX.trans ?_ (by assumption)⟩
 | (repeat first | assumption | exact EXn.refl _ _ | refine EXn.more ?_ _ | refine EXn.put ?_ (by omega) _ | refine EX.trans ?_ (by assumption))
end Go.Proofs.Q
namespace Go.Proofs.Q
open Go.AI
set_option maxRecDepth 4000
theorem row_cutT {σ : St} {row : List Value} {off : Nat} {l : List PT} (h : TL σ l ((row.drop off).take (l.length * 11))) {i : Nat} {t : PT} (ht : l[i]? = some t) :
    ∃ a c, cut row (off + i * 11) 11 = some [.int .i64 t.k, .string t.p, .string t.s, .int .i64 t.o.k, .string t.o.n, .string t.o.d, .string t.o.p, .string t.o.s, .string t.o.t, .slice none 0 0, .slice a t.l.length c] ∧ TV σ (.agg #[.int .i64 t.k, .string t.p, .string t.s, .int .i64 t.o.k, .string t.o.n, .string t.o.d, .string t.o.p, .string t.o.s, .string t.o.t, .slice none 0 0, .slice a t.l.length c]) t := by
 have hi : i < l.length := (List.getElem?_eq_some_iff.1 ht).1
 have hlen : l.length * 11 ≤ row.length - off := by
  have := h.len
  rw [List.length_take, List.length_drop] at this; omega
 have h1 := h.get ht
 rw [List.drop_take, List.drop_drop, List.take_take, Nat.min_eq_left (by omega)] at h1
 have h2 : TV σ (.agg ((row.drop (off + i * 11)).take 11).toArray) t := ⟨_, rfl, h1⟩
 obtain ⟨a, c, e, h3⟩ := h2.open
 refine ⟨a, c, ?_, TV.mk h3⟩
 rw [cut_go (by omega)]
 simp only [Value.agg.injEq] at e
 have := congrArg Array.toList e
 simpa using this
def okP : PT → Prop
 | .mk _ _ _ _ l => l.length ≤ 3 ∧ okL l
where okL : List PT → Prop
 | [] => True
 | t :: l => okP t ∧ okL l
theorem okL_mem : ∀ {l : List PT} {t : PT}, okP.okL l → t ∈ l → okP t
 | _ :: _, _, h, .head _ => h.1
 | _ :: _, _, h, .tail _ k => okL_mem h.2 k
def EqS (t : PT) : Prop := okP t → ∀ (σ : St) (u v : Value), TV σ u t → TV σ v t → wpc Tryz.prog 14 #[u, v] σ fun r σ' => r = .bool true ∧ EX σ σ'
theorem EqAll_spec {σ : St} {u v : Value} {l : List PT} (hu : AL σ u l) (hv : AL σ v l) (hl : l.length ≤ 3) (ih : ∀ x ∈ l, EqS x) (hok : okP.okL l) : wpc Tryz.prog 44 #[u, v] σ fun r σ' => r = .bool true ∧ EX σ σ' := by
 obtain ⟨a, c, rfl, h2⟩ := hu
 obtain ⟨b, d, rfl, k2⟩ := hv
 refine body_go Tryz.func44 rfl ?_
 have hr := Tryz.results44
 have hz : ((l.length : Int) != (l.length : Int)) = false := by simp
 simp only [c_seq, RUNA, RUNB, zAd, zMo, zDi, zSu, zMu, zEq, zBe, zLe, zTo, fillS, wantG, vBox, Value.cells, one, putAt, TYA, hr, hz]
 refine loop_go (fun m S τ => S.at 0 = .slice a l.length c ∧ S.at 1 = .slice b l.length d ∧ EX σ τ ∧ ∃ i : Nat, S.at 5 = .int .i64 i ∧ i ≤ l.length ∧ m = l.length - i) l.length ?_ ?_
 ·simp only [c_seq, RUNA, RUNB, zAd, zMo, zDi, zSu, zMu, zEq, zBe, zLe, zTo, fillS, wantG, vBox, Value.cells, one, putAt]
  exact ⟨by repeat first | assumption | exact EXn.refl _ _ | refine EXn.more ?_ _ | refine EXn.put ?_ (by omega) _ | refine EX.trans ?_ (by assumption), 0, rfl, by omega, by omega⟩
 rintro _ S τ ⟨s0, s1, hE, i, s5, hi, rfl⟩
 by_cases hlt : i < l.length
 ·have hd : decide ((i : Int) < (l.length : Int)) = true := by simp; omega
  have hne : l ≠ [] := by intro e; rw [e] at hlt; simp at hlt
  obtain ⟨id, off, row, m, rfl, g2, g3, g4⟩ := h2 hne
  obtain ⟨id', off', row', m', rfl, j2, j3, j4⟩ := k2 hne
  have g3' := (hE.row id g2).trans g3
  have j3' := (hE.row id' j2).trans j3
  have z2 : (0 : Int) ≤ (i : Int) := by omega
  have z3 : (i : Int) < (l.length : Int) := by omega
  have ht : l[i]? = some (l[i]'hlt) := List.getElem?_eq_getElem hlt
  generalize l[i]'hlt = t at ht
  have hm : t ∈ l := List.mem_of_getElem? ht
  obtain ⟨a1, c1, hc, hT⟩ := row_cutT g4 ht
  obtain ⟨a2, c2, hc', hT'⟩ := row_cutT j4 ht
  have hw : IntKind.i64.wrap ((i : Int) + 1) = ((i + 1 : Nat) : Int) := by rw [wrap64 (by omega) (by omega)]; rfl
  simp only [c_seq, RUNA, RUNB, zAd, zMo, zDi, zSu, zMu, zEq, zBe, zLe, zTo, fillS, wantG, vBox, Value.cells, one, putAt, TYA, s0, s1, s5, hd]
  refine d_go (ms := [0, 0, 3, 7, 0, 0, 48, 112, 255, 511]) (order := [0, 1, 2, 3, 4, 5, 6, 7, 8, 9]) (by kernel_rfl) (by kernel_rfl) (by kernel_rfl) (by kernel_rfl) ?_
  simp only [YRUNA, YRUNB, zSh, bit, c_seq, RUNA, RUNB, zAd, zMo, zDi, zSu, zMu, zEq, zBe, zLe, zTo, fillS, wantG, vBox, Value.cells, one, putAt, TYA, s0, s1, s5, ia32 z2 z3, Int.toNat_natCast, g3', j3', hc, hc']
  refine wpc_mono (ih t hm (okL_mem hok hm) _ _ _ (hT.mono ?_) (hT'.mono ?_)) ?_
  ·repeat first | assumption | exact EXn.refl _ _ | refine EXn.more ?_ _ | refine EXn.put ?_ (by omega) _ | refine EX.trans ?_ (by assumption)
  ·repeat first | assumption | exact EXn.refl _ _ | refine EXn.more ?_ _ | refine EXn.put ?_ (by omega) _ | refine EX.trans ?_ (by assumption)
  rintro r σ2 ⟨rfl, hE2⟩
  have e2 : EX σ σ2 := by refine EX.trans ?_ hE2; repeat first | assumption | exact EXn.refl _ _ | refine EXn.more ?_ _ | refine EXn.put ?_ (by omega) _ | refine EX.trans ?_ (by assumption)
  have n2 := hE2.next
  simp only [YRUNA, YRUNB, zSh, bit, c_seq, RUNA, RUNB, zAd, zMo, zDi, zSu, zMu, zEq, zBe, zLe, zTo, fillS, wantG, vBox, Value.cells, one, putAt, TYA, s0, s1, s5, hw]
  refine ⟨l.length - (i + 1), by omega, ?_, i + 1, rfl, by omega, rfl⟩
  repeat first | assumption | exact EXn.refl _ _ | refine EXn.more ?_ _ | refine EXn.put ?_ (by omega) _ | refine EX.trans ?_ (by assumption)
 ·have hd : decide ((i : Int) < (l.length : Int)) = false := by simp; omega
  simp only [c_seq, RUNA, RUNB, zAd, zMo, zDi, zSu, zMu, zEq, zBe, zLe, zTo, fillS, wantG, vBox, Value.cells, one, putAt, TYA, s0, s1, s5, hd, hr]
  first
  | exact ⟨rfl, by repeat first | assumption | exact EXn.refl _ _ | refine EXn.more ?_ _ | refine EXn.put ?_ (by omega) _ | refine EX.trans ?_ (by assumption)⟩
  | (repeat first | assumption | exact EXn.refl _ _ | refine EXn.more ?_ _ | refine EXn.put ?_ (by omega) _ | refine EX.trans ?_ (by assumption))
theorem TV.al {σ : St} {v : Value} {t : PT} (h : TV σ v t) : ∃ a c, v = .agg #[.int .i64 t.k, .string t.p, .string t.s, .int .i64 t.o.k, .string t.o.n, .string t.o.d, .string t.o.p, .string t.o.s, .string t.o.t, .slice none 0 0, .slice a t.l.length c] ∧ AL σ (.slice a t.l.length c) t.l := by
 obtain ⟨a, c, h1, h2⟩ := h.open
 exact ⟨a, c, h1, a, c, rfl, h2⟩
theorem eqT_step (t : PT) (ih : ∀ x ∈ t.l, EqS x) : EqS t := by
 intro hok σ u v hu hv
 have ho : t.l.length ≤ 3 ∧ okP.okL t.l := by cases t; exact hok
 obtain ⟨a, c, rfl, hA⟩ := hu.al
 obtain ⟨b, d, rfl, hB⟩ := hv.al
 refine body_go Tryz.func14 rfl ?_
 have hr := Tryz.results14
 have g1 : (t.k == t.k) = true := by simp
 have g2 : decide (t.p = t.p ∧ t.s = t.s) = true := by simp
 simp only [c_seq, RUNA, RUNB, zAd, zMo, zDi, zSu, zMu, zEq, zBe, zLe, zTo, fillS, wantG, vBox, Value.cells, one, putAt, TYA, hr, g1, eqY, g2]
 refine wpc_mono (refEqO_spec _ t.o t.o) ?_
 rintro r σ1 ⟨rfl, hE1⟩
 have n1 := hE1.next
 simp only [next_more, next_put] at n1
 have r1 : σ1.row σ.next = some (tcell t a c, boxMeta) := by rw [hE1.row _ (by first | omega | (simp only [next_more, next_put] at *; omega))]; simp only [c_seq, RUNA, RUNB, zAd, zMo, zDi, zSu, zMu, zEq, zBe, zLe, zTo, fillS, wantG, vBox, Value.cells, one, putAt, tcell]
 have r2 : σ1.row (σ.next + 1) = some (tcell t b d, boxMeta) := by rw [hE1.row _ (by first | omega | (simp only [next_more, next_put] at *; omega))]; simp only [c_seq, RUNA, RUNB, zAd, zMo, zDi, zSu, zMu, zEq, zBe, zLe, zTo, fillS, wantG, vBox, Value.cells, one, putAt, tcell]
 simp only [tcell] at r1 r2
 have e1 : EX σ σ1 := by refine EX.trans ?_ hE1; repeat first | assumption | exact EXn.refl _ _ | refine EXn.more ?_ _ | refine EXn.put ?_ (by omega) _ | refine EX.trans ?_ (by assumption)
 rw [obB_rfl]
 simp only [c_seq, RUNA, RUNB, zAd, zMo, zDi, zSu, zMu, zEq, zBe, zLe, zTo, fillS, wantG, vBox, Value.cells, one, putAt, TYA, hr, r1, r2]
 refine wpc_mono (EqAll_spec (hA.mono e1) (hB.mono e1) ho.1 ih ho.2) ?_
 rintro r σ2 ⟨rfl, hE2⟩
 simp only [c_seq, RUNA, RUNB, zAd, zMo, zDi, zSu, zMu, zEq, zBe, zLe, zTo, fillS, wantG, vBox, Value.cells, one, putAt, TYA, hr]
 first
 | exact ⟨rfl, by repeat first | assumption | exact EXn.refl _ _ | refine EXn.more ?_ _ | refine EXn.put ?_ (by omega) _ | refine EX.trans ?_ (by assumption)⟩
 | (repeat first | assumption | exact EXn.refl _ _ | refine EXn.more ?_ _ | refine EXn.put ?_ (by omega) _ | refine EX.trans ?_ (by assumption))
mutual
theorem eqT : ∀ t : PT, EqS t
 | .mk k p s o l => eqT_step (.mk k p s o l) (eqL l)
theorem eqL : ∀ (l : List PT) (x : PT), x ∈ l → EqS x
 | t :: l, x, h => by
  rcases List.mem_cons.1 h with e | e
  ·rw [e]; exact eqT t
  ·exact eqL l x e
end
end Go.Proofs.Q
namespace Go.Proofs.Q
open Go.AI
set_option maxRecDepth 4000
def kT : PT → Prop
 | .mk k _ _ _ l => (k = 1 ∨ k = 2 ∨ k = 3) ∧ kL l
where kL : List PT → Prop
 | [] => True
 | t :: l => kT t ∧ kL l
theorem kL_mem : ∀ {l : List PT} {t : PT}, kT.kL l → t ∈ l → kT t
 | _ :: _, _, h, .head _ => h.1
 | _ :: _, _, h, .tail _ k => kL_mem h.2 k
mutual
def fmT (vs : List Sy) : PT → Int
 | .mk k p s o l => if k = 1 then (if idxY (p, s) vs 0 < 0 then 6 else 0) else if k = 2 then 0 else if propB (.mk k p s o l) then fmL vs l else 46
def fmL (vs : List Sy) : List PT → Int
 | [] => 0
 | t :: l => if fmT vs t = 0 then fmL vs l else fmT vs t
end
theorem fmT_eq (vs : List Sy) (t : PT) : fmT vs t = if t.k = 1 then (if idxY (t.p, t.s) vs 0 < 0 then 6 else 0) else if t.k = 2 then 0 else if propB t then fmL vs t.l else 46 := by cases t; simp only [fmT, PT.k, PT.p, PT.s, PT.l]; rfl
theorem drop_get {l : List PT} {i : Nat} {t : PT} (h : l[i]? = some t) : l.drop i = t :: l.drop (i + 1) := by
 obtain ⟨h1, h2⟩ := List.getElem?_eq_some_iff.1 h
 rw [List.drop_eq_getElem_cons h1, h2]
def CkS (vs : List Sy) (t : PT) : Prop := kT t → okP t → ∀ (σ : St) (v w : Value), TV σ v t → YL σ w vs → wpc Tryz.prog 24 #[v, w] σ fun r σ' => r = .int .i64 (fmT vs t) ∧ EX σ σ'
theorem ck_step {vs : List Sy} (hvs : vs.length < 1000) (t : PT) (ih : ∀ x ∈ t.l, CkS vs x) : CkS vs t := by
 intro hk hok σ v w hv hw
 have ho : t.l.length ≤ 3 ∧ okP.okL t.l := by cases t; exact hok
 have hkk : (t.k = 1 ∨ t.k = 2 ∨ t.k = 3) ∧ kT.kL t.l := by cases t; exact hk
 have hv0 := hv
 have hw0 := hw
 obtain ⟨a, c, rfl, hA⟩ := hv.al
 obtain ⟨b, d, rfl, -⟩ := hw
 refine body_go Tryz.func24 rfl ?_
 have hr := Tryz.results24
 rw [fmT_eq]
 rcases hkk.1 with h1 | h1 | h1
 ·have g1 : (t.k == (1 : Int)) = true := by simp [h1]
  have g3 : (t.k != (3 : Int)) = true := by simp [h1]
  simp only [c_seq, RUNA, RUNB, zAd, zMo, zDi, zSu, zMu, zEq, zBe, zLe, zTo, fillS, wantG, vBox, Value.cells, one, putAt, TYA, hr, g1]
  refine wpc_mono (position_spec (t.p, t.s) (hw0.mono ?_) hvs) ?_
  ·repeat first | assumption | exact EXn.refl _ _ | refine EXn.more ?_ _ | refine EXn.put ?_ (by omega) _ | refine EX.trans ?_ (by assumption)
  rintro r σ1 ⟨rfl, hE1⟩
  have n1 := hE1.next
  simp only [next_more, next_put] at n1
  have r1 : σ1.row σ.next = some (tcell t a c, boxMeta) := by rw [hE1.row _ (by first | omega | (simp only [next_more, next_put] at *; omega))]; simp only [c_seq, RUNA, RUNB, zAd, zMo, zDi, zSu, zMu, zEq, zBe, zLe, zTo, fillS, wantG, vBox, Value.cells, one, putAt, tcell]
  simp only [tcell] at r1
  have e1 : EX σ σ1 := by refine EX.trans ?_ hE1; repeat first | assumption | exact EXn.refl _ _ | refine EXn.more ?_ _ | refine EXn.put ?_ (by omega) _ | refine EX.trans ?_ (by assumption)
  by_cases h2 : idxY (t.p, t.s) vs 0 < 0
  ·have g2 : decide (idxY (t.p, t.s) vs 0 < 0) = true := decide_eq_true h2
   simp only [c_seq, RUNA, RUNB, zAd, zMo, zDi, zSu, zMu, zEq, zBe, zLe, zTo, fillS, wantG, vBox, Value.cells, one, putAt, TYA, hr, r1, g2]
   exact ⟨by simp [h1, h2], by repeat first | assumption | exact EXn.refl _ _ | refine EXn.more ?_ _ | refine EXn.put ?_ (by omega) _ | refine EX.trans ?_ (by assumption)⟩
  ·have g2 : decide (idxY (t.p, t.s) vs 0 < 0) = false := decide_eq_false h2
   simp only [c_seq, RUNA, RUNB, zAd, zMo, zDi, zSu, zMu, zEq, zBe, zLe, zTo, fillS, wantG, vBox, Value.cells, one, putAt, TYA, hr, r1, g2, g3]
   exact ⟨by simp [h1, h2], by repeat first | assumption | exact EXn.refl _ _ | refine EXn.more ?_ _ | refine EXn.put ?_ (by omega) _ | refine EX.trans ?_ (by assumption)⟩
 ·have g1 : (t.k == (1 : Int)) = false := by simp [h1]
  have g3 : (t.k != (3 : Int)) = true := by simp [h1]
  simp only [c_seq, RUNA, RUNB, zAd, zMo, zDi, zSu, zMu, zEq, zBe, zLe, zTo, fillS, wantG, vBox, Value.cells, one, putAt, TYA, hr, g1, g3]
  exact ⟨by simp [h1], by repeat first | assumption | exact EXn.refl _ _ | refine EXn.more ?_ _ | refine EXn.put ?_ (by omega) _ | refine EX.trans ?_ (by assumption)⟩
 ·have g1 : (t.k == (1 : Int)) = false := by simp [h1]
  have g3 : (t.k != (3 : Int)) = false := by simp [h1]
  have e0 : (if t.k = 1 then (if idxY (t.p, t.s) vs 0 < 0 then (6 : Int) else 0) else if t.k = 2 then 0 else if propB t then fmL vs t.l else 46) = if propB t then fmL vs t.l else 46 := by simp [h1]
  rw [e0]
  simp only [c_seq, RUNA, RUNB, zAd, zMo, zDi, zSu, zMu, zEq, zBe, zLe, zTo, fillS, wantG, vBox, Value.cells, one, putAt, TYA, hr, g1, g3]
  refine wpc_mono (propositional_spec (hv0.mono ?_)) ?_
  ·repeat first | assumption | exact EXn.refl _ _ | refine EXn.more ?_ _ | refine EXn.put ?_ (by omega) _ | refine EX.trans ?_ (by assumption)
  rintro r σ1 ⟨rfl, hE1⟩
  have n1 := hE1.next
  simp only [next_more, next_put] at n1
  have r1 : σ1.row σ.next = some (tcell t a c, boxMeta) := by rw [hE1.row _ (by first | omega | (simp only [next_more, next_put] at *; omega))]; simp only [c_seq, RUNA, RUNB, zAd, zMo, zDi, zSu, zMu, zEq, zBe, zLe, zTo, fillS, wantG, vBox, Value.cells, one, putAt, tcell]
  simp only [tcell] at r1
  have e1 : EX σ σ1 := by refine EX.trans ?_ hE1; repeat first | assumption | exact EXn.refl _ _ | refine EXn.more ?_ _ | refine EXn.put ?_ (by omega) _ | refine EX.trans ?_ (by assumption)
  cases propB t with
  | false =>
   simp only [c_seq, RUNA, RUNB, zAd, zMo, zDi, zSu, zMu, zEq, zBe, zLe, zTo, fillS, wantG, vBox, Value.cells, one, putAt, TYA, hr, r1, Bool.not_false]
   first
   | exact ⟨by simp, by repeat first | assumption | exact EXn.refl _ _ | refine EXn.more ?_ _ | refine EXn.put ?_ (by omega) _ | refine EX.trans ?_ (by assumption)⟩
   | (repeat first | assumption | exact EXn.refl _ _ | refine EXn.more ?_ _ | refine EXn.put ?_ (by omega) _ | refine EX.trans ?_ (by assumption))
  | true =>
   simp only [c_seq, RUNA, RUNB, zAd, zMo, zDi, zSu, zMu, zEq, zBe, zLe, zTo, fillS, wantG, vBox, Value.cells, one, putAt, TYA, hr, r1, Bool.not_true]
   refine loop_go (fun m S τ => S.at 1 = .slice b vs.length d ∧ S.at 28 = .slice a t.l.length c ∧ S.at 29 = .int .i64 t.l.length ∧ EX σ τ ∧ ∃ i : Nat, S.at 30 = .int .i64 i ∧ i ≤ t.l.length ∧ m = t.l.length - i ∧ fmL vs t.l = fmL vs (t.l.drop i)) t.l.length ?_ ?_
   ·simp only [c_seq, RUNA, RUNB, zAd, zMo, zDi, zSu, zMu, zEq, zBe, zLe, zTo, fillS, wantG, vBox, Value.cells, one, putAt]
    exact ⟨by repeat first | assumption | exact EXn.refl _ _ | refine EXn.more ?_ _ | refine EXn.put ?_ (by omega) _ | refine EX.trans ?_ (by assumption), 0, rfl, by omega, by omega, rfl⟩
   rintro _ S τ ⟨s1, s28, s29, hE, i, s30, hi, rfl, hx⟩
   have hn := hE.next
   by_cases hlt : i < t.l.length
   ·have hd : decide ((i : Int) < (t.l.length : Int)) = true := by simp; omega
    have hne : t.l ≠ [] := by intro e; rw [e] at hlt; simp at hlt
    have ht : t.l[i]? = some (t.l[i]'hlt) := List.getElem?_eq_getElem hlt
    generalize t.l[i]'hlt = x at ht
    have hm : x ∈ t.l := List.mem_of_getElem? ht
    obtain ⟨a0, c0, e', k2⟩ := hA
    cases e'
    obtain ⟨id, off, row, m, rfl, g2, g3, g4⟩ := k2 hne
    have g3' := (hE.row id g2).trans g3
    have z2 : (0 : Int) ≤ (i : Int) := by omega
    have z3 : (i : Int) < (t.l.length : Int) := by omega
    obtain ⟨a1, c1, hc, hT⟩ := row_cutT g4 ht
    have q1 : ∀ k, ¬ id = τ.next + k := fun k => by have := hE.next; omega
    have hw : IntKind.i64.wrap ((i : Int) + 1) = ((i + 1 : Nat) : Int) := by rw [wrap64 (by omega) (by omega)]; rfl
    simp only [c_seq, RUNA, RUNB, zAd, zMo, zDi, zSu, zMu, zEq, zBe, zLe, zTo, fillS, wantG, vBox, Value.cells, one, putAt, TYA, s1, s28, s29, s30, hd, ia32 z2 z3, Int.toNat_natCast, g3', hc, q1]
    refine wpc_mono (ih x hm (kL_mem hkk.2 hm) (okL_mem ho.2 hm) _ _ _ (hT.mono ?_) (hw0.mono ?_)) ?_
    ·repeat first | assumption | exact EXn.refl _ _ | refine EXn.more ?_ _ | refine EXn.put ?_ (by omega) _ | refine EX.trans ?_ (by assumption)
    ·repeat first | assumption | exact EXn.refl _ _ | refine EXn.more ?_ _ | refine EXn.put ?_ (by omega) _ | refine EX.trans ?_ (by assumption)
    rintro r σ2 ⟨rfl, hE2⟩
    have e2 : EX σ σ2 := by refine EX.trans ?_ hE2; repeat first | assumption | exact EXn.refl _ _ | refine EXn.more ?_ _ | refine EXn.put ?_ (by omega) _ | refine EX.trans ?_ (by assumption)
    rw [hx, drop_get ht, fmL]
    by_cases h2 : fmT vs x = 0
    ·have g5 : (fmT vs x != (0 : Int)) = false := by simp [h2]
     simp only [c_seq, RUNA, RUNB, zAd, zMo, zDi, zSu, zMu, zEq, zBe, zLe, zTo, fillS, wantG, vBox, Value.cells, one, putAt, TYA, s1, s28, s29, s30, g5, hw]
     refine ⟨t.l.length - (i + 1), by omega, ?_, i + 1, rfl, by omega, rfl, ?_⟩
     ·repeat first | assumption | exact EXn.refl _ _ | refine EXn.more ?_ _ | refine EXn.put ?_ (by omega) _ | refine EX.trans ?_ (by assumption)
     ·rw [if_pos h2]
    ·have g5 : (fmT vs x != (0 : Int)) = true := by simp [h2]
     simp only [c_seq, RUNA, RUNB, zAd, zMo, zDi, zSu, zMu, zEq, zBe, zLe, zTo, fillS, wantG, vBox, Value.cells, one, putAt, TYA, s1, s28, s29, s30, g5, hr]
     exact ⟨by simp [h2], by repeat first | assumption | exact EXn.refl _ _ | refine EXn.more ?_ _ | refine EXn.put ?_ (by omega) _ | refine EX.trans ?_ (by assumption)⟩
   ·have hd : decide ((i : Int) < (t.l.length : Int)) = false := by simp; omega
    have hi' : t.l.drop i = [] := List.drop_eq_nil_of_le (by omega)
    simp only [c_seq, RUNA, RUNB, zAd, zMo, zDi, zSu, zMu, zEq, zBe, zLe, zTo, fillS, wantG, vBox, Value.cells, one, putAt, TYA, s1, s28, s29, s30, hd, hr]
    rw [hx, hi', fmL]
    first
    | exact ⟨by simp, by repeat first | assumption | exact EXn.refl _ _ | refine EXn.more ?_ _ | refine EXn.put ?_ (by omega) _ | refine EX.trans ?_ (by assumption)⟩
    | (repeat first | assumption | exact EXn.refl _ _ | refine EXn.more ?_ _ | refine EXn.put ?_ (by omega) _ | refine EX.trans ?_ (by assumption))
mutual
theorem ckT {vs : List Sy} (hvs : vs.length < 1000) : ∀ t : PT, CkS vs t
 | .mk k p s o l => ck_step hvs (.mk k p s o l) (ckL hvs l)
theorem ckL {vs : List Sy} (hvs : vs.length < 1000) : ∀ (l : List PT) (x : PT), x ∈ l → CkS vs x
 | t :: l, x, h => by
  rcases List.mem_cons.1 h with e | e
  ·rw [e]; exact ckT hvs t
  ·exact ckL hvs l x e
end
end Go.Proofs.Q
