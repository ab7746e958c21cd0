import Derived.Test.YtbggbjpobkkbaaaGreatDoorKz
import Derived.Test.YtbggbjpobkkbaaaGreatDoorKx
import Derived.Test.YtbggbjpobkkbaaaGreatDoorKy
import Derived.Test.YtbggbjpobkkbaaaGreatDoorKq
set_option linter.unusedVariables false
set_option linter.unusedSimpArgs false
set_option linter.constructorNameAsVariable false
namespace Go.TV
open Go.AI Go.PI Go.Proofs
set_option maxRecDepth 20000
theorem aBs {β : Type} {b : G.T} {K : G.T × Unit → Option β} : obL (D := U0.D) [.rc 3] (some [⟨.rc 3, b⟩]) K = K (b, ()) := rfl
theorem obL_ob {β : Type} {b : G.O} {K : G.O × Unit → Option β} : obL (D := U0.D) [.rc 2] (some [⟨.rc 2, b⟩]) K = K (b, ()) := rfl
def zOb : G.O := ⟨0, [], [], ⟨[], []⟩, [], []⟩
def nOb : G.O := ⟨2, [], [], ⟨iE, [110, 105, 108]⟩, [], []⟩
def lsp (f : List UInt8) (l : List G.T) : G.T := ⟨3, ⟨iE, f⟩, zOb, l⟩
def neg (t : G.T) : G.T := if isA t uJ 1 then t.args.headD t else lsp uJ [t]
theorem cIs_ok {t : G.T} {s : List UInt8} {k : Int} {L n : Nat} : CTp L (n + 1) 63 (tsi t s k) = some (bb (isA t s k)) := by
 show CTp L (n + 1) 63 [⟨.rc 3, _⟩, ⟨.str, _⟩, ⟨.int .i64, _⟩] = _
 rw [c63, F63, B63x0]
 simp only [J63x1, B63x1, isA]
 by_cases e1 : t.kind = 3
 ·by_cases e2 : t.name = ⟨iE, s⟩
  ·have e2' : t.name = G.Y.mk [108, 105, 115, 112] s := e2
   simp [e1, e2, e2', cnd, bb, iE]
  ·have e2' : ¬ t.name = G.Y.mk [108, 105, 115, 112] s := e2
   simp [e1, e2, e2', cnd, bb, iE]
 ·simp [e1, cnd, bb]
theorem LispP_ok {s : List UInt8} {l : List G.T} {L n : Nat} : CTp L (n + 2) 64 [⟨.str, s⟩, ⟨.sl (.rc 3), l⟩] = some [⟨.rc 3, lsp s l⟩] := by
 rw [c64, F64, B64x0, c79]; rfl
theorem LispR_ok {s : List UInt8} {l : List G.T} {L n : Nat} : CTp L (n + 2) 35 [⟨.str, s⟩, ⟨.sl (.rc 3), l⟩] = some [⟨.rc 3, lsp s l⟩] := by
 rw [c35, F35, B35x0, aAM, obL_y]
 simp only []
 rw [c48]; rfl
theorem negP_ok {t : G.T} {L n : Nat} : CTp L (n + 3) 26 [⟨.rc 3, t⟩] = some [⟨.rc 3, neg t⟩] := by
 have h1 : CTp L (n + 2) 63 [⟨.rc 3, t⟩, ⟨.str, uJ⟩, ⟨.int .i64, (1 : Int)⟩] = some [⟨.bool, isA t uJ 1⟩] := cIs_ok
 have h2 : CTp L (n + 2) 64 [⟨.str, uJ⟩, ⟨.sl (.rc 3), ([t] : List G.T)⟩] = some [⟨.rc 3, lsp uJ [t]⟩] := LispP_ok
 simp only [uJ] at h1 h2
 rw [c26, F26, B26x0, h1, dZ]
 change cnd (isA t uJ 1) _ _ = _
 cases e : isA t uJ 1 with
 | false => rw [aI, show neg t = lsp uJ [t] from by simp [neg, e]]; erw [h2]; rw [aBs]; rfl
 | true =>
  obtain ⟨p, hp⟩ := len1 (tM (k := 1) e)
  rw [aK, hp]
  simp [neg, e, hp, idx, ob]
theorem negR_ok {t : G.T} {L n : Nat} : CTp L (n + 3) 31 [⟨.rc 3, t⟩] = some [⟨.rc 3, neg t⟩] := by
 have h1 : CTp L (n + 2) 29 [⟨.rc 3, t⟩, ⟨.str, uJ⟩, ⟨.int .i64, (1 : Int)⟩] = some [⟨.bool, isA t uJ 1⟩] := Is_ok
 have h2 : CTp L (n + 2) 35 [⟨.str, uJ⟩, ⟨.sl (.rc 3), ([t] : List G.T)⟩] = some [⟨.rc 3, lsp uJ [t]⟩] := LispR_ok
 simp only [uJ] at h1 h2
 rw [c31, F31, B31x0, h1, dZ]
 change cnd (isA t uJ 1) _ _ = _
 cases e : isA t uJ 1 with
 | false => rw [aI, show neg t = lsp uJ [t] from by simp [neg, e]]; erw [h2]; rw [aBs]; rfl
 | true =>
  obtain ⟨p, hp⟩ := len1 (tM (k := 1) e)
  rw [aK, hp]
  simp [neg, e, hp, idx, ob]
theorem nilP_ok {L n : Nat} : CTp L (n + 2) 28 [] = some [⟨.rc 2, nOb⟩] := by
 rw [c28, F28, B28x0, c65]; rfl
theorem nilR_ok {L n : Nat} : CTp L (n + 2) 33 [] = some [⟨.rc 2, nOb⟩] := by
 rw [c33, F33, B33x0, aAM, obL_y]
 simp only []
 rw [c52]; rfl
theorem asP_loop {c : TC0} {L : Nat} {t : G.T} {a : List G.T} (hb : a.length < 1000000000) : ∀ (l : List G.T) (k m : Nat), a.drop k = l → l.length < m →
    (∀ x, x ∈ l → c 25 (tt2 x t) = some (bb (decide (x = t)))) → aAG c L m (a.length : Int) a (k : Int) t = some (bb (decide (t ∈ l))) := by
 intro l
 induction l with
 | nil =>
  intro k m h1 h3 _
  obtain ⟨m, rfl⟩ : ∃ m', m = m' + 1 := ⟨m - 1, by simp at h3; omega⟩
  have e1 := bD h1
  have e3 : decide ((k : Int) < (a.length : Int)) = false := by simp; omega
  rw [aAG, B27x1, e3, aI]; simp [bb]
 | cons x l ih =>
  intro k m h1 h3 hc
  obtain ⟨m, rfl⟩ : ∃ m', m = m' + 1 := ⟨m - 1, by simp at h3; omega⟩
  obtain ⟨a1, a2, a3⟩ := bC h1
  have e3 : decide ((k : Int) < (a.length : Int)) = true := by simp; omega
  have hxy : c 25 [⟨.rc 3, x⟩, ⟨.rc 3, t⟩] = some [⟨.bool, decide (x = t)⟩] := hc x (mhE ..)
  rw [aAG, B27x1, e3, aK, aN, a1, dR, hxy, dZ, eI (by omega)]
  by_cases e : x = t
  ·subst e; simp [cnd, bb]
  ·have e' : ¬ t = x := fun h => e h.symm
   simp only [e, decide_false, aI]
   rw [ih (k + 1) m a3 (by simp at h3; omega) fun z hz => hc z (mtE _ hz)]
   simp [e']
theorem asR_loop {c : TC0} {L : Nat} {t : G.T} {a : List G.T} (hb : a.length < 1000000000) : ∀ (l : List G.T) (k m : Nat), a.drop k = l → l.length < m →
    (∀ x, x ∈ l → c 30 (tt2 x t) = some (bb (decide (x = t)))) → aAF c L m a (k : Int) t = some (bb (decide (t ∈ l))) := by
 intro l
 induction l with
 | nil =>
  intro k m h1 h3 _
  obtain ⟨m, rfl⟩ : ∃ m', m = m' + 1 := ⟨m - 1, by simp at h3; omega⟩
  have e1 := bD h1
  have e3 : decide ((k : Int) < (a.length : Int)) = false := by simp; omega
  rw [aAF, B32x1, e3, aI]; simp [bb]
 | cons x l ih =>
  intro k m h1 h3 hc
  obtain ⟨m, rfl⟩ : ∃ m', m = m' + 1 := ⟨m - 1, by simp at h3; omega⟩
  obtain ⟨a1, a2, a3⟩ := bC h1
  have e3 : decide ((k : Int) < (a.length : Int)) = true := by simp; omega
  have hxy : c 30 [⟨.rc 3, x⟩, ⟨.rc 3, t⟩] = some [⟨.bool, decide (x = t)⟩] := hc x (mhE ..)
  rw [aAF, B32x1, e3, aK, aN, a1, dR, hxy, dZ, eI (by omega)]
  by_cases e : x = t
  ·subst e; simp [cnd, bb]
  ·have e' : ¬ t = x := fun h => e h.symm
   simp only [e, decide_false, aI]
   rw [ih (k + 1) m a3 (by simp at h3; omega) fun z hz => hc z (mtE _ hz)]
   simp [e']
theorem asP_ok {a : List G.T} {t : G.T} {L n : Nat} (hw : cZ a < 1000000000) (hL : cZ a < L) (hn : cZ a < n) : CTp L n 27 [⟨.sl (.rc 3), a⟩, ⟨.rc 3, t⟩] = some [⟨.bool, decide (t ∈ a)⟩] := by
 have hlen := gD a
 obtain ⟨n, rfl⟩ : ∃ n', n = n' + 1 := ⟨n - 1, by omega⟩
 rw [c27]
 exact asP_loop (by omega) a 0 L rfl (by omega) fun x hx => TEq_ok x (by have := aV hx; simp only [wfT]; omega) t L n (by have := aV hx; omega) (by have := aV hx; omega)
theorem asR_ok {a : List G.T} {t : G.T} {L n : Nat} (hw : cZ a < 1000000000) (hL : cZ a < L) (hn : cZ a < n) : CTp L n 32 [⟨.sl (.rc 3), a⟩, ⟨.rc 3, t⟩] = some [⟨.bool, decide (t ∈ a)⟩] := by
 have hlen := gD a
 obtain ⟨n, rfl⟩ : ∃ n', n = n' + 1 := ⟨n - 1, by omega⟩
 rw [c32]
 exact asR_loop (by omega) a 0 L rfl (by omega) fun x hx => aGx x (by have := aV hx; simp only [wfT]; omega) t L n (by have := aV hx; omega) (by have := aV hx; omega)
noncomputable def eqv (u a : G.T) : Option G.O := match a.args with
 | [x, y] => if isA a eqB 2 then (if x = u ∧ y.kind = 2 then some y.value else if y = u ∧ x.kind = 2 then some x.value else none) else none
 | _ => none
noncomputable def nN (u : G.T) : List G.T → Option G.O
 | [] => none
 | a :: l => match eqv u a with | some o => some o | none => nN u l
noncomputable def aDp (a : List G.T) (u : G.T) : TVs := if u.kind = 2 then [⟨.rc 2, zOb⟩, ⟨.bool, false⟩] else match nN u a with
 | some o => [⟨.rc 2, o⟩, ⟨.bool, true⟩]
 | none => if neg u ∈ a then [⟨.rc 2, nOb⟩, ⟨.bool, true⟩] else [⟨.rc 2, zOb⟩, ⟨.bool, false⟩]
theorem eqv_n {u a : G.T} (h : isA a eqB 2 = false) : eqv u a = none := by
 unfold eqv; split
 ·rw [h]; rfl
 ·rfl
theorem eqv_y {u a x y : G.T} (h : isA a eqB 2 = true) (ha : a.args = [x, y]) : eqv u a = if x = u ∧ y.kind = 2 then some y.value else if y = u ∧ x.kind = 2 then some x.value else none := by
 unfold eqv; rw [ha]; simp only [h, if_true]
theorem vaP_loop {c : TC0} {L : Nat} {u : G.T} {a : List G.T} (hb : a.length < 1000000000) (h1 : ∀ t, c 24 (tsi t eqB 2) = some (bb (isA t eqB 2)))
    (h2 : c 26 [⟨.rc 3, u⟩] = some [⟨.rc 3, neg u⟩]) (h3 : c 27 [⟨.sl (.rc 3), a⟩, ⟨.rc 3, neg u⟩] = some [⟨.bool, decide (neg u ∈ a)⟩]) (h4 : c 28 [] = some [⟨.rc 2, nOb⟩]) (hk : u.kind ≠ 2) : ∀ (l : List G.T) (k m : Nat), a.drop k = l → l.length < m →
    (∀ x, x ∈ l → ∀ p, p ∈ x.args → c 25 (tt2 p u) = some (bb (decide (p = u)))) → W6x1 c L m (a.length : Int) a (k : Int) a u zOb =
      some (match nN u l with | some o => [⟨.rc 2, o⟩, ⟨.bool, true⟩] | none => if neg u ∈ a then [⟨.rc 2, nOb⟩, ⟨.bool, true⟩] else [⟨.rc 2, zOb⟩, ⟨.bool, false⟩]) := by
 intro l
 induction l with
 | nil =>
  intro k m e1 e3 _
  obtain ⟨m, rfl⟩ : ∃ m', m = m' + 1 := ⟨m - 1, by simp at e3; omega⟩
  have e4 := bD e1
  have e5 : decide ((k : Int) < (a.length : Int)) = false := by simp; omega
  rw [W6x1, B6x1, e5, aI, h2, aBs]
  simp only []
  rw [h3, dZ]
  simp only [nN]
  by_cases e : neg u ∈ a
  ·simp only [e, decide_true, aK, if_true]; rw [h4, obL_ob]
  ·simp only [e, decide_false, aI, if_false]; rfl
 | cons x l ih =>
  intro k m e1 e3 hc
  obtain ⟨m, rfl⟩ : ∃ m', m = m' + 1 := ⟨m - 1, by simp at e3; omega⟩
  obtain ⟨a1, a2, a3⟩ := bC e1
  have e5 : decide ((k : Int) < (a.length : Int)) = true := by simp; omega
  have hi : c 24 [⟨.rc 3, x⟩, ⟨.str, eqB⟩, ⟨.int .i64, (2 : Int)⟩] = some [⟨.bool, isA x eqB 2⟩] := h1 x
  simp only [eqB] at hi
  have next : nN u (x :: l) = nN u l → J6x2 c L (W6x1 c L m) (k : Int) (a.length : Int) a a u zOb = some (match nN u (x :: l) with | some o => [⟨.rc 2, o⟩, ⟨.bool, true⟩] | none => if neg u ∈ a then [⟨.rc 2, nOb⟩, ⟨.bool, true⟩] else [⟨.rc 2, zOb⟩, ⟨.bool, false⟩]) := fun hv => by
   rw [hv, J6x2, B6x2, eI (by omega)]
   exact ih (k + 1) m a3 (by simp at e3; omega) fun z hz => hc z (mtE _ hz)
  rw [W6x1, B6x1, e5, aK, aN, a1, dR, hi, dZ]
  change cnd (!isA x eqB 2) _ _ = _
  cases ei : isA x eqB 2 with
  | false => rw [Bool.not_false, aK]; exact next (by simp only [nN, eqv_n ei])
  | true =>
   obtain ⟨p, q, hq⟩ := len2 (tM (k := 2) ei)
   have q0 : idx x.args (0 : Int) = some p := by rw [hq]; rfl
   have q1 : idx x.args (1 : Int) = some q := by rw [hq]; rfl
   have hp : c 25 [⟨.rc 3, p⟩, ⟨.rc 3, u⟩] = some [⟨.bool, decide (p = u)⟩] := hc x (mhE ..) p (by rw [hq]; simp)
   have hq' : c 25 [⟨.rc 3, q⟩, ⟨.rc 3, u⟩] = some [⟨.bool, decide (q = u)⟩] := hc x (mhE ..) q (by rw [hq]; simp)
   have ev := eqv_y (u := u) ei hq
   have second : ¬ (p = u ∧ q.kind = 2) → J6x3 c L (W6x1 c L m) false (k : Int) (a.length : Int) a a x u zOb = some (match nN u (x :: l) with | some o => [⟨.rc 2, o⟩, ⟨.bool, true⟩] | none => if neg u ∈ a then [⟨.rc 2, nOb⟩, ⟨.bool, true⟩] else [⟨.rc 2, zOb⟩, ⟨.bool, false⟩]) := fun hn => by
    rw [if_neg hn] at ev
    rw [J6x3, B6x3, aI, q1, dR, hq', dZ]
    by_cases e6 : q = u
    ·simp only [e6, decide_true, aK]
     rw [q0, dR]
     by_cases e7 : p.kind = 2
     ·rw [if_pos ⟨e6, e7⟩] at ev
      simp only [e7, decide_true, J6x4, B6x4, aK]
      rw [q0, dR]
      simp only [nN, ev]
     ·rw [if_neg (fun h => e7 h.2)] at ev
      simp only [e7, decide_false, J6x4, B6x4, aI]
      exact next (by simp only [nN, ev])
    ·rw [if_neg (fun h => e6 h.1)] at ev
     simp only [e6, decide_false, aI, J6x4, B6x4]
     exact next (by simp only [nN, ev])
   rw [bnT, aI, q0, dR, hp, dZ]
   by_cases e6 : p = u
   ·simp only [e6, decide_true, aK]
    rw [q1, dR]
    by_cases e7 : q.kind = 2
    ·rw [if_pos ⟨e6, e7⟩] at ev
     simp only [e7, decide_true, J6x3, B6x3, aK]
     rw [q1, dR]
     simp only [nN, ev]
    ·simp only [e7, decide_false]
     exact second (fun h => e7 h.2)
   ·simp only [e6, decide_false, aI]
    exact second (fun h => e6 h.1)
end Go.TV
namespace Go.TV
open Go.AI Go.PI Go.Proofs
set_option maxRecDepth 20000
theorem vaR_loop {c : TC0} {L : Nat} {u : G.T} {a : List G.T} (hb : a.length < 1000000000) (h1 : ∀ t, c 29 (tsi t eqB 2) = some (bb (isA t eqB 2)))
    (h2 : c 31 [⟨.rc 3, u⟩] = some [⟨.rc 3, neg u⟩]) (h3 : c 32 [⟨.sl (.rc 3), a⟩, ⟨.rc 3, neg u⟩] = some [⟨.bool, decide (neg u ∈ a)⟩]) (h4 : c 33 [] = some [⟨.rc 2, nOb⟩]) (hk : u.kind ≠ 2) : ∀ (l : List G.T) (k m : Nat), a.drop k = l → l.length < m →
    (∀ x, x ∈ l → ∀ p, p ∈ x.args → c 30 (tt2 p u) = some (bb (decide (p = u)))) → W7x1 c L m (k : Int) a u zOb =
      some (match nN u l with | some o => [⟨.rc 2, o⟩, ⟨.bool, true⟩] | none => if neg u ∈ a then [⟨.rc 2, nOb⟩, ⟨.bool, true⟩] else [⟨.rc 2, zOb⟩, ⟨.bool, false⟩]) := by
 intro l
 induction l with
 | nil =>
  intro k m e1 e3 _
  obtain ⟨m, rfl⟩ : ∃ m', m = m' + 1 := ⟨m - 1, by simp at e3; omega⟩
  have e4 := bD e1
  have e5 : decide ((k : Int) < (a.length : Int)) = false := by simp; omega
  rw [W7x1, B7x1, e5, aI, h2, aBs]
  simp only []
  rw [h3, dZ]
  simp only [nN]
  by_cases e : neg u ∈ a
  ·simp only [e, decide_true, aK, if_true]; rw [h4, obL_ob]
  ·simp only [e, decide_false, aI, if_false]; rfl
 | cons x l ih =>
  intro k m e1 e3 hc
  obtain ⟨m, rfl⟩ : ∃ m', m = m' + 1 := ⟨m - 1, by simp at e3; omega⟩
  obtain ⟨a1, a2, a3⟩ := bC e1
  have e5 : decide ((k : Int) < (a.length : Int)) = true := by simp; omega
  have hi : c 29 [⟨.rc 3, x⟩, ⟨.str, eqB⟩, ⟨.int .i64, (2 : Int)⟩] = some [⟨.bool, isA x eqB 2⟩] := h1 x
  simp only [eqB] at hi
  have next : nN u (x :: l) = nN u l → J7x2 c L (W7x1 c L m) (k : Int) a u zOb = some (match nN u (x :: l) with | some o => [⟨.rc 2, o⟩, ⟨.bool, true⟩] | none => if neg u ∈ a then [⟨.rc 2, nOb⟩, ⟨.bool, true⟩] else [⟨.rc 2, zOb⟩, ⟨.bool, false⟩]) := fun hv => by
   rw [hv, J7x2, B7x2, eI (by omega)]
   exact ih (k + 1) m a3 (by simp at e3; omega) fun z hz => hc z (mtE _ hz)
  rw [W7x1, B7x1, e5, aK, aN, a1, dR, hi, dZ]
  change cnd (!isA x eqB 2) _ _ = _
  cases ei : isA x eqB 2 with
  | false => rw [Bool.not_false, aK]; exact next (by simp only [nN, eqv_n ei])
  | true =>
   obtain ⟨p, q, hq⟩ := len2 (tM (k := 2) ei)
   have q0 : idx x.args (0 : Int) = some p := by rw [hq]; rfl
   have q1 : idx x.args (1 : Int) = some q := by rw [hq]; rfl
   have hp : c 30 [⟨.rc 3, p⟩, ⟨.rc 3, u⟩] = some [⟨.bool, decide (p = u)⟩] := hc x (mhE ..) p (by rw [hq]; simp)
   have hq' : c 30 [⟨.rc 3, q⟩, ⟨.rc 3, u⟩] = some [⟨.bool, decide (q = u)⟩] := hc x (mhE ..) q (by rw [hq]; simp)
   have ev := eqv_y (u := u) ei hq
   have second : ¬ (p = u ∧ q.kind = 2) → J7x3 c L (W7x1 c L m) false (k : Int) a x u zOb = some (match nN u (x :: l) with | some o => [⟨.rc 2, o⟩, ⟨.bool, true⟩] | none => if neg u ∈ a then [⟨.rc 2, nOb⟩, ⟨.bool, true⟩] else [⟨.rc 2, zOb⟩, ⟨.bool, false⟩]) := fun hn => by
    rw [if_neg hn] at ev
    rw [J7x3, B7x3, aI, q0, dR]
    by_cases e7 : p.kind = 2
    ·simp only [e7, decide_true, aK]
     rw [q1, dR, hq', dZ]
     simp only [J7x4, B7x4]
     by_cases e6 : q = u
     ·rw [if_pos ⟨e6, e7⟩] at ev
      simp only [e6, decide_true, aK]
      rw [q0, dR]
      simp only [nN, ev]
     ·rw [if_neg (fun h => e6 h.1)] at ev
      simp only [e6, decide_false, aI]
      exact next (by simp only [nN, ev])
    ·rw [if_neg (fun h => e7 h.2)] at ev
     simp only [e7, decide_false, aI, J7x4, B7x4]
     exact next (by simp only [nN, ev])
   rw [bnT, aI, q1, dR]
   by_cases e7 : q.kind = 2
   ·simp only [e7, decide_true, aK]
    rw [q0, dR, hp, dZ]
    by_cases e6 : p = u
    ·rw [if_pos ⟨e6, e7⟩] at ev
     simp only [e6, decide_true, J7x3, B7x3, aK]
     rw [q1, dR]
     simp only [nN, ev]
    ·simp only [e6, decide_false]
     exact second (fun h => e6 h.1)
   ·simp only [e7, decide_false, aI]
    exact second (fun h => e7 h.2)
theorem vaP_ok {a : List G.T} {u : G.T} {L n : Nat} (hw : cZ a < 1000000) (hL : cZ a + 10 < L) (hn : cZ a + 10 < n) : CTp L n 6 [⟨.sl (.rc 3), a⟩, ⟨.rc 3, u⟩] = some (aDp a u) := by
 have hlen := gD a
 obtain ⟨n, rfl⟩ : ∃ n', n = n' + 4 := ⟨n - 4, by omega⟩
 rw [show n + 4 = n + 3 + 1 from rfl, c6, F6, B6x0]
 by_cases hk : u.kind = 2
 ·simp only [hk, decide_true, aK, aDp, if_true]; rfl
 ·simp only [hk, decide_false, aI, aDp, if_false]
  exact vaP_loop (by omega) (fun t => IsP_ok) negP_ok (asP_ok (by omega) (by omega) (by omega)) nilP_ok hk a 0 L rfl (by omega) fun x hx p hp => TEq_ok p (by have := aV hx; have := gW x; have := aV hp; simp only [wfT]; omega) u L (n + 3) (by have := aV hx; have := gW x; have := aV hp; omega) (by have := aV hx; have := gW x; have := aV hp; omega)
theorem vaR_ok {a : List G.T} {u : G.T} {L n : Nat} (hw : cZ a < 1000000) (hL : cZ a + 10 < L) (hn : cZ a + 10 < n) : CTp L n 7 [⟨.sl (.rc 3), a⟩, ⟨.rc 3, u⟩] = some (aDp a u) := by
 have hlen := gD a
 obtain ⟨n, rfl⟩ : ∃ n', n = n' + 4 := ⟨n - 4, by omega⟩
 rw [show n + 4 = n + 3 + 1 from rfl, c7, F7, B7x0]
 by_cases hk : u.kind = 2
 ·simp only [hk, decide_true, aK, aDp, if_true]; rfl
 ·simp only [hk, decide_false, aI, aDp, if_false]
  exact vaR_loop (by omega) (fun t => Is_ok) negR_ok (asR_ok (by omega) (by omega) (by omega)) nilR_ok hk a 0 L rfl (by omega) fun x hx p hp => aGx p (by have := aV hx; have := gW x; have := aV hp; simp only [wfT]; omega) u L (n + 3) (by have := aV hx; have := gW x; have := aV hp; omega) (by have := aV hx; have := gW x; have := aV hp; omega)
theorem eqv_sz {u a : G.T} {o : G.O} (h : eqv u a = some o) : osz o ≤ tsz a := by
 unfold eqv at h
 split at h
 ·rename_i x y hxy
  have h1 := gW a
  rw [hxy] at h1
  simp only [cZ] at h1
  have hv : ∀ t : G.T, osz t.value ≤ tsz t := fun t => by cases t; simp only [G.T.value, tsz]; omega
  split at h
  ·split at h
   ·cases h; have := hv y; omega
   ·split at h
    ·cases h; have := hv x; omega
    ·cases h
  ·cases h
 ·cases h
theorem aDI {u : G.T} {o : G.O} : ∀ {l : List G.T}, nN u l = some o → osz o ≤ cZ l
 | [], h => by cases h
 | a :: l, h => by
  simp only [nN] at h
  split at h
  ·rename_i o' e
   cases h
   have := eqv_sz e
   simp only [cZ]; omega
  ·have := aDI h
   simp only [cZ]; omega
theorem valR_ex (a : List G.T) (u : G.T) : ∃ (o : G.O) (b : Bool), aDp a u = [⟨.rc 2, o⟩, ⟨.bool, b⟩] ∧ osz o ≤ cZ a + 20 := by
 have z1 : osz zOb ≤ 20 := by simp [zOb, osz, pI]
 have z2 : osz nOb ≤ 20 := by simp [nOb, osz, pI]
 unfold aDp
 split
 ·exact ⟨_, _, rfl, by omega⟩
 ·split
  ·rename_i o e
   exact ⟨_, _, rfl, by have := aDI e; omega⟩
  ·split
   ·exact ⟨_, _, rfl, by omega⟩
   ·exact ⟨_, _, rfl, by omega⟩
end Go.TV
namespace Go.TV
open Go.AI Go.PI Go.Proofs
def blI (x : Int) : Bool := decide (x = 32) || decide (x = 9) || decide (x = 10) || decide (x = 13)
def csI (x : Int) : Bool := decide (33 ≤ x) && decide (x ≤ 126) && !decide (x = 40) && !decide (x = 41) && !decide (x = 39) && !decide (x = 34) && !decide (x = 59) && !decide (x = 124) && !decide (x = 58)
def u8 (x : UInt8) : Int := (x.toNat : Int)
theorem Bl_ok (x : Int) (L n : Nat) : CTp L (n + 1) 119 [⟨.int .u8, x⟩] = some [yB (blI x)] := by
 rw [c119]
 simp only [F119, aGM, aGw, aGL, blI]
 generalize decide (x = 32) = a, decide (x = 9) = b, decide (x = 10) = d, decide (x = 13) = e
 cases a <;> cases b <;> cases d <;> cases e <;> rfl
theorem Cs_ok (x : Int) (L n : Nat) : CTp L (n + 1) 123 [⟨.int .u8, x⟩] = some [yB (csI x)] := by
 rw [c123]
 simp only [F123, aGH, aGu, aGG, csI]
 generalize decide (33 ≤ x) = a, decide (x ≤ 126) = b, decide (x = 40) = d, decide (x = 41) = e, decide (x = 39) = f, decide (x = 34) = g, decide (x = 59) = h, decide (x = 124) = i, decide (x = 58) = j
 cases a
 ·rfl
 cases b
 ·rfl
 cases d
 case true => rfl
 cases e
 case true => rfl
 cases f
 case true => rfl
 cases g
 case true => rfl
 cases h
 case true => rfl
 cases i
 case true => rfl
 cases j <;> rfl
theorem has_no {s : List UInt8} {k : Nat} {a b : Int} (hb : s.length < 1000000000) (hk : k ≤ s.length) (h : ∀ x, s[k]? = some x → u8 x ≠ a) (L n : Nat) : CTp L (n + 1) 120 [yT s, yI (k : Int), ⟨.int .u8, a⟩, ⟨.int .u8, b⟩] = some [yB false] := by
 rw [c120]
 have e0 : decide ((0 : Int) ≤ (k : Int)) = true := by simp
 simp only [F120, aGK, aGv, aGJ, e0, aK]
 cases h1 : decide (IntKind.i64.wrap ((k : Int) + 1) < (s.length : Int)) with
 | false => rfl
 | true =>
  rw [aK, aN]
  cases h2 : s[k]? with
  | none =>
   exfalso
   have := List.getElem?_eq_none_iff.1 h2
   simp only [djE] at h1
   rw [eI (by omega)] at h1
   omega
  | some x =>
   have := h x h2
   have e1 : decide ((x.toNat : Int) = a) = false := by simpa [u8] using this
   rw [dR, e1]; rfl
theorem Wd_loop {c : TC0} {L : Nat} {s r : List UInt8} (hc : ∀ x, c 123 [⟨.int .u8, x⟩] = some [yB (csI x)]) (hb : s.length < 1000000000) (hr : ∀ y, r.head? = some y → csI (u8 y) = false) :
    ∀ (w : List UInt8) (k m : Nat), s.drop k = w ++ r → w.length < m → (∀ x ∈ w, csI (u8 x) = true) → qJ c L m s (k : Int) = some [yI ((k + w.length : Nat) : Int)] := by
 intro w
 induction w with
 | nil =>
  intro k m h1 h2 _
  obtain ⟨m, rfl⟩ : ∃ m', m = m' + 1 := ⟨m - 1, by simp at h2; omega⟩
  rw [qJ, aCp]
  rw [nlA] at h1
  cases r with
  | nil =>
   have e1 := bD h1
   have e3 : decide ((k : Int) < (s.length : Int)) = false := by simp; omega
   rw [e3, aI, yC, yF, aI]; rfl
  | cons y r =>
   obtain ⟨a1, a2, a3⟩ := bC h1
   have e3 : decide ((k : Int) < (s.length : Int)) = true := by simp; omega
   have e4 : csI (y.toNat : Int) = false := hr y rfl
   rw [e3, aK, aN, a1, dR, hc, dZ, yC, yF, e4, aI]; rfl
 | cons x w ih =>
  intro k m h1 h2 h3
  obtain ⟨m, rfl⟩ : ∃ m', m = m' + 1 := ⟨m - 1, by simp at h2; omega⟩
  rw [qJ, aCp]
  obtain ⟨a1, a2, a3⟩ := bC h1
  have e3 : decide ((k : Int) < (s.length : Int)) = true := by simp; omega
  have e4 : csI (x.toNat : Int) = true := h3 x (mhE ..)
  rw [e3, aK, aN, a1, dR, hc, dZ, yC, yF, e4, aK, eI (by omega)]
  rw [ih (k + 1) m a3 (by simp at h2; omega) fun z hz => h3 z (mtE _ hz)]
  simp only [lcS]; congr 4; omega
theorem Wd_ok {s w r : List UInt8} {k L n : Nat} (hb : s.length < 1000000000) (hL : s.length < L) (h : s.drop k = w ++ r) (hw : ∀ x ∈ w, csI (u8 x) = true) (hr : ∀ y, r.head? = some y → csI (u8 y) = false) :
    CTp L (n + 2) 124 [yT s, yI (k : Int)] = some [yI ((k + w.length : Nat) : Int)] := by
 have := congrArg List.length h
 simp at this
 show CTp L (n + 1 + 1) 124 _ = _
 rw [c124, F124, aGF]
 exact Wd_loop (fun x => Cs_ok x L n) hb hr w k L h (by omega) hw
theorem Sk_loop {c : TC0} {L : Nat} {s r : List UInt8} (hc : ∀ x, c 119 [⟨.int .u8, x⟩] = some [yB (blI x)])
    (hh : ∀ k : Nat, k ≤ s.length → (∀ x, s[k]? = some x → u8 x ≠ 35) → c 120 [yT s, yI (k : Int), ⟨.int .u8, (35 : Int)⟩, ⟨.int .u8, (124 : Int)⟩] = some [yB false])
    (hb : s.length < 1000000000) (hr : ∀ y, r.head? = some y → blI (u8 y) = false ∧ u8 y ≠ 59 ∧ u8 y ≠ 35) :
    ∀ (w : List UInt8) (k m : Nat), s.drop k = w ++ r → w.length < m → (∀ x ∈ w, blI (u8 x) = true) → uE c L m s (k : Int) = some [yI ((k + w.length : Nat) : Int), yB true] := by
 intro w
 induction w with
 | nil =>
  intro k m h1 h2 _
  obtain ⟨m, rfl⟩ : ∃ m', m = m' + 1 := ⟨m - 1, by simp at h2; omega⟩
  rw [uE, B97x1]
  rw [nlA] at h1
  cases r with
  | nil =>
   have e1 := bD h1
   have e3 : decide ((k : Int) < (s.length : Int)) = false := by simp; omega
   rw [e3, aI]; rfl
  | cons y r =>
   obtain ⟨a1, a2, a3⟩ := bC h1
   have e3 : decide ((k : Int) < (s.length : Int)) = true := by simp; omega
   obtain ⟨e4, e5, e6⟩ := hr y rfl
   have e4 : blI (y.toNat : Int) = false := e4
   have e7 : decide ((y.toNat : Int) = 59) = false := by simpa [u8] using e5
   have h8 := hh k (by omega) fun x hx => by rw [a1] at hx; cases hx; exact e6
   rw [e3, aK, aN, a1, dR, hc, dZ, e4, aI, dR, e7, aI, h8, dZ, aI]; rfl
 | cons x w ih =>
  intro k m h1 h2 h3
  obtain ⟨m, rfl⟩ : ∃ m', m = m' + 1 := ⟨m - 1, by simp at h2; omega⟩
  rw [uE, B97x1]
  obtain ⟨a1, a2, a3⟩ := bC h1
  have e3 : decide ((k : Int) < (s.length : Int)) = true := by simp; omega
  have e4 : blI (x.toNat : Int) = true := h3 x (mhE ..)
  rw [e3, aK, aN, a1, dR, hc, dZ, e4, aK, eI (by omega)]
  rw [ih (k + 1) m a3 (by simp at h2; omega) fun z hz => h3 z (mtE _ hz)]
  simp only [lcS]; congr 4; omega
theorem Sk_ok {s w r : List UInt8} {k L n : Nat} (hb : s.length < 1000000000) (hL : s.length < L) (h : s.drop k = w ++ r) (hw : ∀ x ∈ w, blI (u8 x) = true) (hr : ∀ y, r.head? = some y → blI (u8 y) = false ∧ u8 y ≠ 59 ∧ u8 y ≠ 35) :
    CTp L (n + 2) 97 [yT s, yI (k : Int)] = some [yI ((k + w.length : Nat) : Int), yB true] := by
 have := congrArg List.length h
 simp at this
 show CTp L (n + 1 + 1) 97 _ = _
 rw [c97, F97, B97x0]
 exact Sk_loop (fun x => Bl_ok x L n) (fun k h6 hk => has_no hb h6 hk L n) hb hr w k L h (by omega) hw
end Go.TV
namespace Go.TV
open Go.AI Go.PI Go.Proofs
theorem slc_nat {α : Type} {s w r : List α} {k : Nat} (h : s.drop k = w ++ r) (hk : k ≤ s.length) : slc s (k : Int) ((k + w.length : Nat) : Int) = some w := by
 have hl := congrArg List.length h
 simp at hl
 unfold slc
 have e1 : decide ((0 : Int) ≤ (k : Int)) = true := by simp
 have e2 : decide ((k : Int) ≤ ((k + w.length : Nat) : Int)) = true := by simp; omega
 have e3 : decide (((k + w.length : Nat) : Int) ≤ (s.length : Int)) = true := by simp only [djE]; omega
 rw [e1, e2, e3]
 simp only [Bool.and_self, cdt, Int.toNat_natCast, ojE]
 rw [List.drop_take, h]
 simp
theorem obL_nm {β : Type} {a b : List UInt8} {d : Bool} {K : List UInt8 × List UInt8 × Bool × Unit → Option β} : obL (D := U0.D) [.str, .str, .bool] (some [yT a, yT b, yB d]) K = K (a, b, d, ()) := rfl
theorem obL_se {β : Type} {a : G.X} {K : G.X × Unit → Option β} : obL (D := U0.D) [.rc 18] (some [yR 18 a]) K = K (a, ()) := rfl
theorem aBt {β : Type} {a : Int} {b : Bool} {K : Int × Bool × Unit → Option β} : obL (D := U0.D) [.int .i64, .bool] (some [yI a, yB b]) K = K (a, b, ()) := rfl
theorem obL_i {β : Type} {a : Int} {K : Int × Unit → Option β} : obL (D := U0.D) [.int .i64] (some [yI a]) K = K (a, ()) := rfl
theorem obL_s {β : Type} {a : List UInt8} {K : List UInt8 × Unit → Option β} : obL (D := U0.D) [.str] (some [yT a]) K = K (a, ()) := rfl
theorem obL_s2 {β : Type} {a b : List UInt8} {K : List UInt8 × List UInt8 × Unit → Option β} : obL (D := U0.D) [.str, .str] (some [yT a, yT b]) K = K (a, b, ()) := rfl
theorem obL_on {β : Type} {a : G.K} {b : Int} {d : G.X} {K : G.K × Int × G.X × Unit → Option β} : obL (D := U0.D) [.rc 19, .int .i64, .rc 18] (some [yR 19 a, yI b, yR 18 d]) K = K (a, b, d, ()) := rfl
theorem Nm_no {x : UInt8} {w : List UInt8} (h1 : u8 x ≠ 45) (h2 : u8 x < 48 ∨ 57 < u8 x) (L n : Nat) : CTp (L + 1) (n + 1) 126 [yT (x :: w)] = some [yT [], yT [], yB false] := by
 rw [c126]
 have e1 : decide ((0 : Int) < ((x :: w).length : Int)) = true := by simp
 have e2 : decide ((x.toNat : Int) = 45) = false := by simpa [u8] using h1
 have e3 : idx (x :: w) (0 : Int) = some x := rfl
 rw [F126, aGE, e1, aK, e3, dR, e2, aGt, aGD, aI, aGs, aGC, sH, aGB, e1, aK, e3, dR]
 have key : ∀ b : Bool, b = false → aGr (CTp (L + 1) n) (L + 1) (sH (CTp (L + 1) n) (L + 1) L) b 0 (x :: w) 0 = some [yT [], yT [], yB false] := by
  intro b hb; subst hb; rfl
 cases h3 : decide ((48 : Int) ≤ (x.toNat : Int)) with
 | false => exact key _ rfl
 | true =>
  rw [aK, dR]
  have h4 : decide ((x.toNat : Int) ≤ (57 : Int)) = false := by
   simp only [djE] at h3
   simp only [dfN]
   simp only [u8] at h2
   omega
  exact key _ h4
theorem Nd_ok {k p : Int} {w : List UInt8} (h : w.length ≤ 40) (L n : Nat) : CTp L (n + 1) 122 [yR 19 ⟨k, p, [], w, []⟩, yB false] = some [yR 18 ⟨0, 0⟩] := by
 rw [c122]
 have e1 : decide ((40 : Int) < (w.length : Int)) = false := by simp; omega
 simp only [F122, aGI, e1, aI]
 rfl
structure NumW (c : TC0) (w : List UInt8) : Prop where
 a : c 126 [yT w] = some [yT w, yT [49], yB true]
 b : c 127 [yT [49]] = some [yT [49]]
 d : c 127 [yT w] = some [yT w]
 e : c 76 [yT w, yT [49]] = some [yT w, yT [49]]
 f : c 128 [yT w] = some [yI 1]
 g : c 128 [yT [49]] = some [yI 1]
def SyW (w : List UInt8) : Prop := ∃ x l, w = x :: l ∧ u8 x ≠ 45 ∧ (u8 x < 48 ∨ 57 < u8 x) ∧ w ≠ [46] ∧ w.length ≤ 40
theorem aFI {x : Int} (h : csI x = true) : x ≠ 40 ∧ x ≠ 41 ∧ x ≠ 39 ∧ x ≠ 34 ∧ x ≠ 59 ∧ x ≠ 124 ∧ x ≠ 58 := by
 simp only [csI, bjE, Bool.not_eq_true', dfN] at h
 obtain ⟨⟨⟨⟨⟨⟨⟨_, h1⟩, h2⟩, h3⟩, h4⟩, h5⟩, h6⟩, h7⟩ := h
 exact ⟨h1, h2, h3, h4, h5, h6, h7⟩
def wtk (b : Bool) (p : Int) (w : List UInt8) : G.K := bif b then ⟨5, p, [], w, [49]⟩ else ⟨6, p, [], w, []⟩
theorem On_w {s w r : List UInt8} {k L n : Nat} {nu : Bool} (hb : s.length < 1000000000) (hL : s.length < L) (h : s.drop k = w ++ r) (h0 : w ≠ []) (hw : ∀ x ∈ w, csI (u8 x) = true) (hr : ∀ y, r.head? = some y → csI (u8 y) = false ∧ u8 y ≠ 58)
    (hk : (nu = true ∧ NumW (CTp L (n + 2)) w) ∨ (nu = false ∧ SyW w)) :
    CTp L (n + 3) 98 [yT s, yI (k : Int)] = some [yR 19 (wtk nu (k : Int) w), yI ((k + w.length : Nat) : Int), yR 18 ⟨0, 0⟩] := by
 have hl := congrArg List.length h
 simp at hl
 obtain ⟨L, rfl⟩ : ∃ L', L = L' + 1 := ⟨L - 1, by omega⟩
 cases hw0 : w with
 | nil => exact (h0 hw0).elim
 | cons x l =>
  rw [← hw0]
  have hx : x ∈ w := by rw [hw0]; exact mhE ..
  have h1 : s.drop k = x :: (l ++ r) := by rw [h, hw0]; rfl
  obtain ⟨a1, a2, a3⟩ := bC h1
  obtain ⟨q1, q2, q3, q4, q5, q6, q7⟩ := aFI (hw x hx)
  have d1 : decide ((x.toNat : Int) = 40) = false := by simpa [u8] using q1
  have d2 : decide ((x.toNat : Int) = 41) = false := by simpa [u8] using q2
  have d3 : decide ((x.toNat : Int) = 39) = false := by simpa [u8] using q3
  have d4 : decide ((x.toNat : Int) = 34) = false := by simpa [u8] using q4
  have d5 : decide ((x.toNat : Int) = 124) = false := by simpa [u8] using q6
  have d6 : csI (x.toNat : Int) = true := hw x hx
  have hwd := Wd_ok (n := n) hb hL h hw (fun y hy => (hr y hy).1)
  have hsl := slc_nat h (by omega)
  have hhs : CTp (L + 1) (n + 2) 120 [yT s, yI ((k + w.length : Nat) : Int), ⟨.int .u8, (58 : Int)⟩, ⟨.int .u8, (58 : Int)⟩] = some [yB false] := by
   refine has_no hb (by omega) (fun y hy => ?_) (L + 1) (n + 1)
   have : s.drop (k + w.length) = r := by rw [← List.drop_drop, h]; simp
   rw [← List.head?_drop, this] at hy
   exact (hr y hy).2
  show CTp (L + 1) (n + 2 + 1) 98 _ = _
  rw [c98, F98, aGy, aN, a1, dR, d1, aI, d2, aI, d3, aI, d4, aI, d5, aI, Cs_ok, dZ, d6]
  simp only [bnT, aI]
  rw [hwd, obL_i]
  show ob (slc s (k : Int) ((k + w.length : Nat) : Int)) _ = _
  rw [hsl, dR, hhs, dZ, aI]
  rcases hk with ⟨rfl, hn⟩ | ⟨rfl, x', l', e1, e2, e3, e4, e5⟩
  ·rw [hn.a, obL_nm]
   have e4 : decide (w = ([46] : List UInt8)) = false := by
    cases hd : decide (w = ([46] : List UInt8)) with
    | false => rfl
    | true =>
     exfalso
     simp only [djE] at hd
     have h2 := hn.a
     rw [hd] at h2
     rw [Nm_no (x := 46) (w := []) (by decide) (by decide)] at h2
     cases h2
   rw [e4, aI]
   simp only [aK]
   rw [hn.b, obL_s]
   show cnd (decide (([49] : List UInt8) = [48])) _ _ = _
   rw [show decide (([49] : List UInt8) = [48]) = false by decide, aI, hn.d, obL_s, obL_s]
   show obL (D := U0.D) [.str, .str] (CTp (L + 1) (n + 2) 76 [yT w, yT [49]]) _ = _
   rw [hn.e, obL_s2]
   show obL (D := U0.D) [.int .i64] (CTp (L + 1) (n + 2) 128 [yT w]) _ = _
   rw [hn.f, obL_i]
   show cnd (decide ((100 : Int) < 1)) _ _ = _
   rw [show decide ((100 : Int) < 1) = false by decide, aI]
   show obL (D := U0.D) [.int .i64] (CTp (L + 1) (n + 2) 128 [yT [49]]) _ = _
   rw [hn.g, obL_i]
   rfl
  ·rw [e1, Nm_no e2 e3, ← e1, obL_nm]
   have e6 : decide (w = ([46] : List UInt8)) = false := by simpa using e4
   rw [e6, aI]
   simp only [aI]
   rw [Nd_ok e5, obL_se]
   rfl
theorem On_op {s r : List UInt8} {k L n : Nat} (hb : s.length < 1000000000) (h : s.drop k = 40 :: r) : CTp L (n + 1) 98 [yT s, yI (k : Int)] = some [yR 19 ⟨1, (k : Int), [], [], []⟩, yI ((k + 1 : Nat) : Int), yR 18 ⟨0, 0⟩] := by
 obtain ⟨a1, a2, a3⟩ := bC h
 rw [c98, F98, aGy, aN, a1, dR, eI (by omega)]
 rfl
theorem On_cl {s r : List UInt8} {k L n : Nat} (hb : s.length < 1000000000) (h : s.drop k = 41 :: r) : CTp L (n + 1) 98 [yT s, yI (k : Int)] = some [yR 19 ⟨2, (k : Int), [], [], []⟩, yI ((k + 1 : Nat) : Int), yR 18 ⟨0, 0⟩] := by
 obtain ⟨a1, a2, a3⟩ := bC h
 rw [c98, F98, aGy, aN, a1, dR, eI (by omega)]
 rfl
end Go.TV
namespace Go.TV
open Go.AI Go.PI Go.Proofs
theorem obL_lr {β : Type} {b : List G.R} {K : List G.R × Unit → Option β} : obL (D := U0.D) [.sl (.rc 22)] (some [yS 22 b]) K = K (b, ()) := rfl
def rowsL : List G.R := match B88x0 (fun _ _ => none) with
 | some l => (match dJ (D := U0.D) [.sl (.rc 22)] l with | some r => r.1 | none => [])
 | none => []
theorem rows_ok {L n : Nat} : CTp L (n + 1) 88 [] = some [yS 22 rowsL] := by
 rw [c88]; rfl
theorem rows_len : rowsL.length < 1000 := by decide +kernel
def qD (s : List UInt8) : List G.R → Option Int
 | [] => none
 | r :: l => if r.name = s then some r.arity else qD s l
def arity (s : G.Y) : Option Int := if s.package = iE then qD s.name rowsL else none
def oI (o : Option Int) : TVs := match o with
 | some k => [yI k, yB true]
 | none => [yI (0 : Int), yB false]
theorem Ar_loop {c : TC0} {L : Nat} {t : G.Y} {a : List G.R} (hb : a.length < 1000000000) : ∀ (l : List G.R) (k m : Nat), a.drop k = l → l.length < m →
    aAz c L m a (k : Int) t = some (oI (qD t.name l)) := by
 intro l
 induction l with
 | nil =>
  intro k m h1 h3
  obtain ⟨m, rfl⟩ : ∃ m', m = m' + 1 := ⟨m - 1, by simp at h3; omega⟩
  have e1 := bD h1
  have e3 : decide ((k : Int) < (a.length : Int)) = false := by simp; omega
  rw [aAz, B77x1, e3, aI]; rfl
 | cons x l ih =>
  intro k m h1 h3
  obtain ⟨m, rfl⟩ : ∃ m', m = m' + 1 := ⟨m - 1, by simp at h3; omega⟩
  obtain ⟨a1, a2, a3⟩ := bC h1
  have e3 : decide ((k : Int) < (a.length : Int)) = true := by simp; omega
  rw [aAz, B77x1, e3, aK, aN, a1, dR, eI (by omega), qD]
  by_cases e : x.name = t.name
  ·simp only [e, decide_true, aK, dR, if_true, oI]
  ·simp only [e, decide_false, aI, if_false]
   exact ih (k + 1) m a3 (by simp at h3; omega)
theorem ArR_ok (s : G.Y) (L n : Nat) (hL : 1000 ≤ L) : CTp L (n + 2) 77 [yR 1 s] = some (oI (arity s)) := by
 have hl := rows_len
 rw [c77, F77, B77x0]
 by_cases e : s.package = iE
 ·have e' : decide (s.package = ([108, 105, 115, 112] : List UInt8)) = true := decide_eq_true e
  have ea : arity s = qD s.name rowsL := by simp [arity, e]
  rw [e', ea, rows_ok, obL_lr]
  exact Ar_loop (a := rowsL) (by omega) rowsL 0 L rfl (by omega)
 ·have e' : decide (s.package = ([108, 105, 115, 112] : List UInt8)) = false := decide_eq_false e
  have ea : arity s = none := by simp [arity, e]
  rw [e', ea]; rfl
end Go.TV
namespace Go.TV
open Go.AI Go.PI Go.Proofs
structure bE (s : G.Z) : Prop where
 b : ∀ x ∈ s.b, 0 ≤ x ∧ x < 256
 p0 : 0 ≤ s.pos
 p1 : s.pos ≤ (s.b.length : Int)
 l : s.b.length ≤ 100
def NxR (x : Rt) (a : Int) : Prop := ∃ (r : Int) (s : G.Z), x = some [yI r, yR 0 s] ∧ 0 ≤ r ∧ r < a ∧ bE s
theorem fW {β : Type} {a : Int} {b : G.Z} {K : Int × G.Z × Unit → Option β} : obL (D := U0.D) [.int .i64, .rc 0] (some [yI a, yR 0 b]) K = K (a, b, ()) := rfl
theorem Nx_ok {s : G.Z} {a : Int} {L n : Nat} (h : bE s) (h1 : 1 ≤ a) : NxR (CTp L (n + 1) 16 [yI a, yR 0 s]) a := by
 rw [c16, F16, B16x0]
 cases e1 : decide ((s.b.length : Int) ≤ s.pos) with
 | true => exact ⟨0, s, rfl, Int.le_refl _, by omega, h⟩
 | false =>
  have e2 : decide (a < (1 : Int)) = false := by simp; omega
  simp only [dfN] at e1
  rw [aI, e2, J16x1, B16x1, aI]
  obtain ⟨k, hk⟩ : ∃ k : Nat, s.pos = (k : Int) := ⟨s.pos.toNat, by have := h.p0; omega⟩
  have hl := h.l
  have hkl : k < s.b.length := by omega
  have e3 : s.b[k]? = some s.b[k] := geG hkl
  obtain ⟨q1, q2⟩ := h.b s.b[k] (List.getElem_mem hkl)
  generalize s.b[k] = v at e3 q1 q2
  have e4 : IntKind.i64.wrap (((k + 1 : Nat) : Int) - 1) = (k : Int) := by
   rw [show ((k + 1 : Nat) : Int) - 1 = (k : Int) by omega]; exact wrapn (by omega)
  obtain ⟨m, rfl⟩ : ∃ m : Nat, v = (m : Int) := ⟨v.toNat, by omega⟩
  rw [hk, eI (by omega), e4, aN, e3, dR, show decide (a = 0) = false by simp; omega]
  simp only [Bool.not_false, tX]
  rw [wrapn (by omega)]
  exact ⟨_, _, rfl, Int.tmod_nonneg _ q1, Int.tmod_lt_of_pos _ (by omega), ⟨h.b, by show (0 : Int) ≤ ((k + 1 : Nat) : Int); omega, by show ((k + 1 : Nat) : Int) ≤ (s.b.length : Int); omega, h.l⟩⟩
def fns (e : G.E) : List G.F := bif decide (e.kind = 3) || decide (e.kind = 5) || decide (e.kind = 6) || decide (e.kind = 7) then e.functions else []
theorem Fn_ok (e : G.E) (L n : Nat) : CTp L (n + 1) 96 [yR 15 e] = some [yS 4 (fns e)] := by
 rw [c96]
 simp only [F96, B96x0, J96x1, B96x1, fns]
 generalize decide (e.kind = 3) = a, decide (e.kind = 5) = b, decide (e.kind = 6) = d, decide (e.kind = 7) = f
 cases a <;> cases b <;> cases d <;> cases f <;> rfl
def PlR (E : List G.E) (x : Rt) : Prop := ∃ (i k : Int) (b : Bool), x = some [yI i, yI k, yB b] ∧ (b = true → ∃ (i' k' : Nat) (e : G.E), i = i' ∧ k = k' ∧ E[i']? = some e ∧ k' < (fns e).length)
theorem obL_fl {β : Type} {a : List G.F} {K : List G.F × Unit → Option β} : obL (D := U0.D) [.sl (.rc 4)] (some [yS 4 a]) K = K (a, ()) := rfl
theorem Pl_in {E : List G.E} {f : G.Y} {c : TC0} {L : Nat} {n1 : List G.E → Int → G.Y → Rt} {i : Nat} {e : G.E} (he : E[i]? = some e) (hb : (fns e).length < 1000000000) (hn : PlR E (n1 E (IntKind.i64.wrap ((i : Int) + 1)) f)) :
    ∀ (r : List G.F) (k m : Nat), (fns e).drop k = r → r.length < m → PlR E (aAw c L n1 m (fns e) (k : Int) (i : Int) E f) := by
 intro r
 induction r with
 | nil =>
  intro k m h1 h2
  obtain ⟨m, rfl⟩ : ∃ m', m = m' + 1 := ⟨m - 1, by simp at h2; omega⟩
  have e1 := bD h1
  have e3 : decide ((k : Int) < ((fns e).length : Int)) = false := by simp; omega
  rw [aAw, B95x2, e3, aI]; exact hn
 | cons x r ih =>
  intro k m h1 h2
  obtain ⟨m, rfl⟩ : ∃ m', m = m' + 1 := ⟨m - 1, by simp at h2; omega⟩
  obtain ⟨a1, a2, a3⟩ := bC h1
  have e3 : decide ((k : Int) < ((fns e).length : Int)) = true := by simp; omega
  rw [aAw, B95x2, e3, aK, aN, a1, dR, eI (by omega)]
  cases decide (x.name = f) with
  | true => exact ⟨_, _, true, rfl, fun _ => ⟨i, k, e, rfl, rfl, he, a2⟩⟩
  | false => exact ih (k + 1) m a3 (by simp at h2; omega)
theorem Pl_out {E : List G.E} {f : G.Y} {c : TC0} {L : Nat} (hb : E.length < 1000000) (hf : ∀ e ∈ E, (fns e).length < L ∧ (fns e).length < 1000000) (hc : ∀ e : G.E, c 96 [yR 15 e] = some [yS 4 (fns e)]) :
    ∀ (r : List G.E) (k m : Nat), E.drop k = r → r.length < m → PlR E (aAx c L m E (k : Int) f) := by
 intro r
 induction r with
 | nil =>
  intro k m h1 h2
  obtain ⟨m, rfl⟩ : ∃ m', m = m' + 1 := ⟨m - 1, by simp at h2; omega⟩
  have e1 := bD h1
  have e3 : decide ((k : Int) < (E.length : Int)) = false := by simp; omega
  rw [aAx, B95x1, e3, aI]
  exact ⟨0, 0, false, rfl, fun h => by cases h⟩
 | cons x r ih =>
  intro k m h1 h2
  obtain ⟨m, rfl⟩ : ∃ m', m = m' + 1 := ⟨m - 1, by simp at h2; omega⟩
  obtain ⟨a1, a2, a3⟩ := bC h1
  have e3 : decide ((k : Int) < (E.length : Int)) = true := by simp; omega
  rw [aAx, B95x1, e3, aK, aN, a1, dR, hc, obL_fl]
  obtain ⟨g1, g2⟩ := hf x (List.mem_of_getElem? a1)
  refine Pl_in a1 (by omega) ?_ (fns x) 0 L rfl g1
  rw [eI (by omega)]
  exact ih (k + 1) m a3 (by simp at h2; omega)
structure WOK (E : List G.E) : Prop where
 l : E.length ≤ 1000
 f : ∀ e ∈ E, e.functions.length ≤ 1000
 p : ∀ e ∈ E, ∀ f ∈ e.functions, f.params.length ≤ 3
theorem fns_mem {e : G.E} {f : G.F} (h : f ∈ fns e) : f ∈ e.functions := by
 unfold fns at h
 revert h
 cases decide (e.kind = 3) || decide (e.kind = 5) || decide (e.kind = 6) || decide (e.kind = 7) with
 | true => exact id
 | false => intro h; cases h
theorem fns_len (e : G.E) : (fns e).length ≤ e.functions.length := by
 unfold fns
 cases decide (e.kind = 3) || decide (e.kind = 5) || decide (e.kind = 6) || decide (e.kind = 7) with
 | true => exact nlR _
 | false => exact Nat.zero_le _
theorem obL_pl {β : Type} {a b : Int} {d : Bool} {K : Int × Int × Bool × Unit → Option β} : obL (D := U0.D) [.int .i64, .int .i64, .bool] (some [yI a, yI b, yB d]) K = K (a, b, d, ()) := rfl
theorem obL_fb {β : Type} {a : G.F} {d : Bool} {K : G.F × Bool × Unit → Option β} : obL (D := U0.D) [.rc 4, .bool] (some [yR 4 a, yB d]) K = K (a, d, ()) := rfl
theorem Fu_ok {E : List G.E} (hE : WOK E) (f : G.Y) {L n : Nat} (hL : 2000 ≤ L) : ∃ (g : G.F) (b : Bool), CTp L (n + 3) 78 [yS 15 E, yR 1 f] = some [yR 4 g, yB b] ∧ g.params.length ≤ 3 := by
 have h94 : PlR E (CTp L (n + 2) 95 [yS 15 E, yR 1 f]) := by
  show PlR E (CTp L (n + 1 + 1) 95 _)
  rw [c95, F95, B95x0]
  have := hE.l
  exact Pl_out (by omega) (fun e he => by have := hE.f e he; have := fns_len e; omega) (fun e => Fn_ok e L n) E 0 L rfl (by omega)
 obtain ⟨i, k, b, h94, hb⟩ := h94
 show ∃ (g : G.F) (b : Bool), CTp L (n + 2 + 1) 78 _ = _ ∧ _
 rw [c78, F78, B78x0, h94, obL_pl]
 cases b with
 | false => exact ⟨_, _, rfl, Nat.zero_le _⟩
 | true =>
  obtain ⟨i', k', e, rfl, rfl, h1, h2⟩ := hb rfl
  have h3 : (fns e)[k']? = some (fns e)[k'] := geG h2
  simp only [bnT, aI]
  rw [aN, h1, dR, Fn_ok, obL_fl]
  simp only [aN, h3, dR]
  exact ⟨_, _, rfl, hE.p e (List.mem_of_getElem? h1) _ (fns_mem (List.getElem_mem h2))⟩
theorem rows_ar : (rowsL.all fun r => decide (0 ≤ r.arity) && decide (r.arity ≤ 3)) = true := by kernel_rfl
theorem xJ : ∀ (l : List G.R), (l.all fun r => decide (0 ≤ r.arity) && decide (r.arity ≤ 3)) = true → ∀ s k, qD s l = some k → 0 ≤ k ∧ k ≤ 3
 | [], _, s, k, h => by cases h
 | r :: l, h, s, k, hk => by
  simp only [alC, bjE, djE] at h
  simp only [qD] at hk
  split at hk
  ·simp only [ojE] at hk; subst hk; exact h.1
  ·exact xJ l h.2 s k hk
def ArR (x : Rt) : Prop := ∃ (k : Nat) (b : Bool), x = some [yI (k : Int), yB b] ∧ k ≤ 3
theorem Ar_ok {E : List G.E} (hE : WOK E) (f : G.Y) {L n : Nat} (hL : 2000 ≤ L) : ArR (CTp L (n + 4) 60 [yS 15 E, yR 1 f]) := by
 have h55 := ArR_ok f L (n + 1) (by omega)
 show ArR (CTp L (n + 3 + 1) 60 _)
 rw [c60, F60, B60x0]
 show ArR (obL (D := U0.D) [.int .i64, .bool] (CTp L (n + 1 + 2) 77 [yR 1 f]) _)
 rw [h55]
 cases ha : arity f with
 | some k =>
  obtain ⟨g1, g2⟩ : 0 ≤ k ∧ k ≤ 3 := by
   unfold arity at ha
   split at ha
   ·exact xJ rowsL rows_ar _ _ ha
   ·cases ha
  obtain ⟨m, rfl⟩ : ∃ m : Nat, k = (m : Int) := ⟨k.toNat, by omega⟩
  exact ⟨m, true, rfl, by omega⟩
 | none =>
  simp only [oI]
  rw [aBt, aI]
  obtain ⟨g, b, h1, h2⟩ := Fu_ok (n := n) hE f hL
  rw [h1, obL_fb]
  cases b with
  | false => exact ⟨0, false, rfl, by omega⟩
  | true => exact ⟨g.params.length, true, rfl, h2⟩
end Go.TV
namespace Go.TV
open Go.AI Go.PI Go.Proofs
set_option maxRecDepth 20000
noncomputable section
variable (c : TC0) (e : Cu) (L : Nat)
def q149x0 (c : TC0) (e : Cu) : Kt := xK kT
def q149x1 (c : TC0) (e : Cu) : Kt := xT kT c e [1, 1] (q149x0 c e)
def q149x2 (c : TC0) (e : Cu) : Kt := xT kT c e [1, 1, 1] (q149x0 c e)
def aA8 (c : TC0) (e : Cu) : Kt := dW U0 0 (q149x2 c e)
def q149x4 (c : TC0) (e : Cu) (n2 : Nt) : Kt := lpK U0 nF n2 (aA8 c e)
def q149x5 (c : TC0) (e : Cu) (n2 : Nt) : Kt := xT kT c e [1, 1, 0, 1, 0, 0, 1, 1] (q149x4 c e n2)
def q149x6 (c : TC0) (e : Cu) (n2 : Nt) : Kt := dW U0 1 (q149x5 c e n2)
def B149x0 (c : TC0) (k1 : Bool → List UInt8 → Rt) (a0 : List UInt8) : Rt :=
 cnd (decide ((List.length a0 : Int) < (1 : Int))) (k1 true a0) (cnd (decide ((40 : Int) < (List.length a0 : Int))) (k1 true a0) (ob (idx a0 (0 : Int)) fun v0 =>
 cnd (decide ((v0.toNat : Int) < (97 : Int))) (k1 true a0) (ob (idx a0 (0 : Int)) fun v1 =>
 k1 (decide ((122 : Int) < (v1.toNat : Int))) a0)))
def V149x0 (n : Nt) : List UInt8 → Rt := fun x0 => n [yT x0]
def B149x1 (c : TC0) (e2 : List UInt8 → Int → Rt) (a22 : Bool) (a0 : List UInt8) : Rt :=
 cnd a22 (some [yB false]) (e2 a0 (0 : Int))
def V149x1 (n : Nt) : Bool → List UInt8 → Rt := fun x0 x1 => n [yB x0, yT x1]
def aF5 := V149x1 (xD kT e [1, 0, 1, 0] aAb (q149x1 c e))
def B149x2 (c : TC0) (k3 : Bool → Int → List UInt8 → Rt) (a0 : List UInt8) (a3 : Int) : Rt :=
 cnd (decide (a3 < (List.length a0 : Int))) (ob (idx a0 a3) fun v0 =>
 cnd (decide ((v0.toNat : Int) < (97 : Int))) (cnd (decide ((v0.toNat : Int) < (48 : Int))) (k3 (!decide ((v0.toNat : Int) = (45 : Int))) a3 a0) (cnd (decide ((57 : Int) < (v0.toNat : Int))) (k3 (!decide ((v0.toNat : Int) = (45 : Int))) a3 a0) (k3 false a3 a0))) (cnd (decide ((122 : Int) < (v0.toNat : Int))) (cnd (decide ((v0.toNat : Int) < (48 : Int))) (k3 (!decide ((v0.toNat : Int) = (45 : Int))) a3 a0) (cnd (decide ((57 : Int) < (v0.toNat : Int))) (k3 (!decide ((v0.toNat : Int) = (45 : Int))) a3 a0) (k3 false a3 a0))) (k3 false a3 a0))) (some [yB true])
def xV (n : Nt) : List UInt8 → Int → Rt := fun x0 x1 => n [yT x0, yI x1]
def X149x2 := xV (xE kT e [1, 1, 0, 1, 0, 0] nF (aA8 c e))
def B149x3 (c : TC0) (n2 : List UInt8 → Int → Rt) (a49 : Bool) (a3 : Int) (a0 : List UInt8) : Rt :=
 cnd a49 (some [yB false]) (n2 a0 (IntKind.i64.wrap (a3 + (1 : Int))))
def V149x3 (n : Nt) : Bool → Int → List UInt8 → Rt := fun x0 x1 x2 => n [yB x0, yI x1, yT x2]
def aF4 (n2 : Nt) := V149x3 (xD kT e [1, 1, 0, 1, 0, 0, 1, 0, 0, 1, 1, 0] aAa (q149x6 c e n2))
theorem s149x0 : V149x0 (xF kT c e) = B149x0 c (aF5 c e) := by kernel_rfl
theorem s149x1 : V149x1 (xA kT c e [1, 0, 1, 0] aAb (q149x1 c e)) = B149x1 c (X149x2 c e) := by kernel_rfl
theorem s149x2 (n2 : Nt) : xV (xA kT c e [1, 1, 0, 1, 0, 0] nF (lpK U0 nF n2 (aA8 c e))) = B149x2 c (aF4 c e n2) := by kernel_rfl
theorem s149x3 (n2 : Nt) : V149x3 (xA kT c e [1, 1, 0, 1, 0, 0, 1, 0, 0, 1, 1, 0] aAa (q149x6 c e n2)) = B149x3 c (xV n2) := by kernel_rfl
def J149x3 (c : TC0) (L : Nat) (n2 : List UInt8 → Int → Rt) : Bool → Int → List UInt8 → Rt := B149x3 c n2
theorem j149x3 (n2 : Nt) : aF4 c (cu c L) n2 = J149x3 c L (xV n2) := by rw [aF4, bF, s149x3]; rfl
def aCf (c : TC0) (L : Nat) : Nat → List UInt8 → Int → Rt
 | 0 => fun _ _ => none
 | n + 1 => B149x2 c (J149x3 c L (aCf c L n))
theorem u149x2 (n : Nat) : xV (xL kT c L [1, 1, 0, 1, 0, 0] nF (aA8 c (cu c L)) n) = aCf c L n := by
 induction n with
 | zero => rfl
 | succ n ih => rw [iU, s149x2]; simp only [j149x3, ih]; rfl
theorem w149x2 : X149x2 c (cu c L) = aCf c L L := u149x2 c L L
def J149x1 (c : TC0) (L : Nat) : Bool → List UInt8 → Rt := B149x1 c (aCf c L L)
theorem j149x1 : aF5 c (cu c L) = J149x1 c L := by rw [aF5, bF, s149x1]; simp only [w149x2]; rfl
def F149 (c : TC0) (L : Nat) : List UInt8 → Rt := B149x0 c (J149x1 c L)
theorem e149 : V149x0 (xF kT c (cu c L)) = F149 c L := by rw [s149x0]; simp only [j149x1]; rfl
theorem c149 (a0 : List UInt8) (L n : Nat) : CTp L (n + 1) 149 [yT a0] = F149 (CTp L n) L a0 := by rw [← e149]; exact cg (x := kT) (by kernel_rfl) (by kernel_rfl) L n _
end
end Go.TV
namespace Go.TV
open Go.AI Go.PI Go.Proofs
theorem cst_some {t u : Ty} {x : Den U0.D t} {y : Den U0.D u} (h : cst t u x = some y) : (⟨t, x⟩ : TV U0.D) = ⟨u, y⟩ := by
 unfold cst at h
 split at h
 ·rename_i e _; subst e; simp only [ojE] at h; subst h; rfl
 ·cases h
theorem aB0 : ∀ {ts : List Ty} {d : TVs} {r : DenL U0.D ts}, dJ ts d = some r → d = tvL ts r
 | [], [], _, _ => rfl
 | [], _ :: _, _, h => by cases h
 | _ :: _, [], _, h => by cases h
 | t :: ts, v :: d, r, h => by
  simp only [dJ] at h
  split at h
  ·rename_i x q h1 h2
   simp only [ojE] at h
   subst h
   show v :: d = ⟨t, x⟩ :: tvL ts q
   rw [← aB0 h2, ← cst_some h1]
  ·cases h
def hx (ts : List Ty) (d : TVs) (K : DenL U0.D ts → Rt) (z : Rt) : Rt := match dJ ts d with | some r => K r | none => z
theorem dO {ts : List Ty} {d : TVs} {K : DenL U0.D ts → Rt} {z : Rt} (h : ∀ r, d = tvL ts r → K r = z) : hx ts d K z = z := by
 unfold hx
 split
 ·rename_i r e; exact h r (aB0 e)
 ·rfl
def Hk (i : Nat) (h : TC0 → Nat → TVs → Rt → Rt) (L m : Nat) (d : TVs) : Prop := h (CTp L m) L d (CTp L (m + 1) i d) = CTp L (m + 1) i d
theorem evq {b : Bool} {x y z : Rt} (h1 : b = true → x = z) (h2 : y = z) : (bif b then x else y) = z := by cases b; exact h2; exact h1 rfl
theorem evc {b : Bool} {x y z : Rt} (h1 : x = z) (h2 : y = z) : (bif b then x else y) = z := by cases b; exact h2; exact h1
noncomputable def hG (i : Nat) (c : TC0) (L : Nat) (d : TVs) (z : Rt) : Rt :=
 match oG insL i with
 | some x => bif Nat.beq x.sig.f orcI.n || Nat.beq x.sig.f orcI.m then z else xF x c (cu c L) d
 | none => z
theorem kB (i L m : Nat) (d : TVs) : hG i (CTp L m) L d (CTp L (m + 1) i d) = CTp L (m + 1) i d := by
 unfold hG
 split
 ·rename_i x hx
  cases hb : Nat.beq x.sig.f orcI.n || Nat.beq x.sig.f orcI.m with
  | true => rfl
  | false => exact (cg hx hb L m d).symm
 ·rfl
end Go.TV
namespace Go.TV
open Go.AI Go.PI Go.Proofs
set_option maxRecDepth 20000
def h3 (c : TC0) (L : Nat) (d : TVs) (z : Rt) : Rt := hx [(.int .u32)] d (fun r => F3 c L r.1) z
theorem g3 (L m : Nat) (d : TVs) : Hk 3 h3 L m d := dO fun r e => e ▸ (c3 r.1 L m).symm
def h8 (c : TC0) (L : Nat) (d : TVs) (z : Rt) : Rt := hx [.rc 2, .rc 2] d (fun r => F8 c L r.1 r.2.1) z
theorem g8 (L m : Nat) (d : TVs) : Hk 8 h8 L m d := dO fun r e => e ▸ (c8 r.1 r.2.1 L m).symm
def h12 (c : TC0) (L : Nat) (d : TVs) (z : Rt) : Rt := hx [] d (fun _ => F12 c L) z
theorem g12 (L m : Nat) (d : TVs) : Hk 12 h12 L m d := dO fun r e => e ▸ (c12 L m).symm
def h21 (c : TC0) (L : Nat) (d : TVs) (z : Rt) : Rt := hx [i6] d (fun r => F21 c L r.1) z
theorem g21 (L m : Nat) (d : TVs) : Hk 21 h21 L m d := dO fun r e => e ▸ (c21 r.1 L m).symm
def h33 (c : TC0) (L : Nat) (d : TVs) (z : Rt) : Rt := hx [] d (fun _ => F33 c L) z
theorem g33 (L m : Nat) (d : TVs) : Hk 33 h33 L m d := dO fun r e => e ▸ (c33 L m).symm
def h35 (c : TC0) (L : Nat) (d : TVs) (z : Rt) : Rt := hx [.str, zS 3] d (fun r => F35 c L r.1 r.2.1) z
theorem g35 (L m : Nat) (d : TVs) : Hk 35 h35 L m d := dO fun r e => e ▸ (c35 r.1 r.2.1 L m).symm
def h36 (c : TC0) (L : Nat) (d : TVs) (z : Rt) : Rt := hx [] d (fun _ => F36 c L) z
theorem g36 (L m : Nat) (d : TVs) : Hk 36 h36 L m d := dO fun r e => e ▸ (c36 L m).symm
def h38 (c : TC0) (L : Nat) (d : TVs) (z : Rt) : Rt := hx [.str] d (fun r => F38 c L r.1) z
theorem g38 (L m : Nat) (d : TVs) : Hk 38 h38 L m d := dO fun r e => e ▸ (c38 r.1 L m).symm
def h48 (c : TC0) (L : Nat) (d : TVs) (z : Rt) : Rt := hx [.rc 1, zS 3] d (fun r => F48 c L r.1 r.2.1) z
theorem g48 (L m : Nat) (d : TVs) : Hk 48 h48 L m d := dO fun r e => e ▸ (c48 r.1 r.2.1 L m).symm
def h52 (c : TC0) (L : Nat) (d : TVs) (z : Rt) : Rt := hx [.rc 1] d (fun r => F52 c L r.1) z
theorem g52 (L m : Nat) (d : TVs) : Hk 52 h52 L m d := dO fun r e => e ▸ (c52 r.1 L m).symm
def h57 (c : TC0) (L : Nat) (d : TVs) (z : Rt) : Rt := hx [] d (fun _ => F57 c L) z
theorem g57 (L m : Nat) (d : TVs) : Hk 57 h57 L m d := dO fun r e => e ▸ (c57 L m).symm
def h58 (c : TC0) (L : Nat) (d : TVs) (z : Rt) : Rt := hx [] d (fun _ => F58 c L) z
theorem g58 (L m : Nat) (d : TVs) : Hk 58 h58 L m d := dO fun r e => e ▸ (c58 L m).symm
def h60 (c : TC0) (L : Nat) (d : TVs) (z : Rt) : Rt := hx [zS 15, .rc 1] d (fun r => F60 c L r.1 r.2.1) z
theorem g60 (L m : Nat) (d : TVs) : Hk 60 h60 L m d := dO fun r e => e ▸ (c60 r.1 r.2.1 L m).symm
def h67 (c : TC0) (L : Nat) (d : TVs) (z : Rt) : Rt := hx [] d (fun _ => F67 c L) z
theorem g67 (L m : Nat) (d : TVs) : Hk 67 h67 L m d := dO fun r e => e ▸ (c67 L m).symm
def h68 (c : TC0) (L : Nat) (d : TVs) (z : Rt) : Rt := hx [] d (fun _ => F68 c L) z
theorem g68 (L m : Nat) (d : TVs) : Hk 68 h68 L m d := dO fun r e => e ▸ (c68 L m).symm
def h69 (c : TC0) (L : Nat) (d : TVs) (z : Rt) : Rt := hx [zS 5, .str, .str] d (fun r => F69 c L r.1 r.2.1 r.2.2.1) z
theorem g69 (L m : Nat) (d : TVs) : Hk 69 h69 L m d := dO fun r e => e ▸ (c69 r.1 r.2.1 r.2.2.1 L m).symm
def h77 (c : TC0) (L : Nat) (d : TVs) (z : Rt) : Rt := hx [.rc 1] d (fun r => F77 c L r.1) z
theorem g77 (L m : Nat) (d : TVs) : Hk 77 h77 L m d := dO fun r e => e ▸ (c77 r.1 L m).symm
def h78 (c : TC0) (L : Nat) (d : TVs) (z : Rt) : Rt := hx [zS 15, .rc 1] d (fun r => F78 c L r.1 r.2.1) z
theorem g78 (L m : Nat) (d : TVs) : Hk 78 h78 L m d := dO fun r e => e ▸ (c78 r.1 r.2.1 L m).symm
def h82 (c : TC0) (L : Nat) (d : TVs) (z : Rt) : Rt := hx [i6, .rc 20] d (fun r => F82 c L r.1 r.2.1) z
theorem g82 (L m : Nat) (d : TVs) : Hk 82 h82 L m d := dO fun r e => e ▸ (c82 r.1 r.2.1 L m).symm
def h88 (c : TC0) (L : Nat) (d : TVs) (z : Rt) : Rt := hx [] d (fun _ => F88 c L) z
theorem g88 (L m : Nat) (d : TVs) : Hk 88 h88 L m d := dO fun r e => e ▸ (c88 L m).symm
def h95 (c : TC0) (L : Nat) (d : TVs) (z : Rt) : Rt := hx [zS 15, .rc 1] d (fun r => F95 c L r.1 r.2.1) z
theorem g95 (L m : Nat) (d : TVs) : Hk 95 h95 L m d := dO fun r e => e ▸ (c95 r.1 r.2.1 L m).symm
def h96 (c : TC0) (L : Nat) (d : TVs) (z : Rt) : Rt := hx [.rc 15] d (fun r => F96 c L r.1) z
theorem g96 (L m : Nat) (d : TVs) : Hk 96 h96 L m d := dO fun r e => e ▸ (c96 r.1 L m).symm
def h99 (c : TC0) (L : Nat) (d : TVs) (z : Rt) : Rt := hx [i6, .rc 20] d (fun r => F99 c L r.1 r.2.1) z
theorem g99 (L m : Nat) (d : TVs) : Hk 99 h99 L m d := dO fun r e => e ▸ (c99 r.1 r.2.1 L m).symm
def h100 (c : TC0) (L : Nat) (d : TVs) (z : Rt) : Rt := hx [zS 5, .str, .str] d (fun r => F100 c L r.1 r.2.1 r.2.2.1) z
theorem g100 (L m : Nat) (d : TVs) : Hk 100 h100 L m d := dO fun r e => e ▸ (c100 r.1 r.2.1 r.2.2.1 L m).symm
def h101 (c : TC0) (L : Nat) (d : TVs) (z : Rt) : Rt := hx [.rc 2, i6] d (fun r => F101 c L r.1 r.2.1) z
theorem g101 (L m : Nat) (d : TVs) : Hk 101 h101 L m d := dO fun r e => e ▸ (c101 r.1 r.2.1 L m).symm
def h107 (c : TC0) (L : Nat) (d : TVs) (z : Rt) : Rt := hx [zS 15, .rc 1] d (fun r => F107 c L r.1 r.2.1) z
theorem g107 (L m : Nat) (d : TVs) : Hk 107 h107 L m d := dO fun r e => e ▸ (c107 r.1 r.2.1 L m).symm
def h122 (c : TC0) (L : Nat) (d : TVs) (z : Rt) : Rt := hx [.rc 19, .bool] d (fun r => F122 c L r.1 r.2.1) z
theorem g122 (L m : Nat) (d : TVs) : Hk 122 h122 L m d := dO fun r e => e ▸ (c122 r.1 r.2.1 L m).symm
def h126 (c : TC0) (L : Nat) (d : TVs) (z : Rt) : Rt := hx [.str] d (fun r => F126 c L r.1) z
theorem g126 (L m : Nat) (d : TVs) : Hk 126 h126 L m d := dO fun r e => e ▸ (c126 r.1 L m).symm
def h129 (c : TC0) (L : Nat) (d : TVs) (z : Rt) : Rt := hx [zS 5, .str] d (fun r => F129 c L r.1 r.2.1) z
theorem g129 (L m : Nat) (d : TVs) : Hk 129 h129 L m d := dO fun r e => e ▸ (c129 r.1 r.2.1 L m).symm
def h145 (c : TC0) (L : Nat) (d : TVs) (z : Rt) : Rt := hx [.rc 3] d (fun r => F145 c L r.1) z
theorem g145 (L m : Nat) (d : TVs) : Hk 145 h145 L m d := dO fun r e => e ▸ (c145 r.1 L m).symm
def h149 (c : TC0) (L : Nat) (d : TVs) (z : Rt) : Rt := hx [.str] d (fun r => F149 c L r.1) z
theorem g149 (L m : Nat) (d : TVs) : Hk 149 h149 L m d := dO fun r e => e ▸ (c149 r.1 L m).symm
noncomputable def hAll (i : Nat) (c : TC0) (L : Nat) (d : TVs) (z : Rt) : Rt := (bif Nat.beq i 69 then h69 c L d z else bif Nat.blt i 69 then (bif Nat.beq i 38 then h38 c L d z else bif Nat.blt i 38 then (bif Nat.beq i 21 then h21 c L d z else bif Nat.blt i 21 then (bif Nat.beq i 8 then h8 c L d z else bif Nat.blt i 8 then (bif Nat.beq i 3 then h3 c L d z else hG i c L d z) else (bif Nat.beq i 12 then h12 c L d z else hG i c L d z)) else (bif Nat.beq i 35 then h35 c L d z else bif Nat.blt i 35 then (bif Nat.beq i 33 then h33 c L d z else hG i c L d z) else (bif Nat.beq i 36 then h36 c L d z else hG i c L d z))) else (bif Nat.beq i 58 then h58 c L d z else bif Nat.blt i 58 then (bif Nat.beq i 52 then h52 c L d z else bif Nat.blt i 52 then (bif Nat.beq i 48 then h48 c L d z else hG i c L d z) else (bif Nat.beq i 57 then h57 c L d z else hG i c L d z)) else (bif Nat.beq i 67 then h67 c L d z else bif Nat.blt i 67 then (bif Nat.beq i 60 then h60 c L d z else hG i c L d z) else (bif Nat.beq i 68 then h68 c L d z else hG i c L d z)))) else (bif Nat.beq i 100 then h100 c L d z else bif Nat.blt i 100 then (bif Nat.beq i 88 then h88 c L d z else bif Nat.blt i 88 then (bif Nat.beq i 78 then h78 c L d z else bif Nat.blt i 78 then (bif Nat.beq i 77 then h77 c L d z else hG i c L d z) else (bif Nat.beq i 82 then h82 c L d z else hG i c L d z)) else (bif Nat.beq i 96 then h96 c L d z else bif Nat.blt i 96 then (bif Nat.beq i 95 then h95 c L d z else hG i c L d z) else (bif Nat.beq i 99 then h99 c L d z else hG i c L d z))) else (bif Nat.beq i 126 then h126 c L d z else bif Nat.blt i 126 then (bif Nat.beq i 107 then h107 c L d z else bif Nat.blt i 107 then (bif Nat.beq i 101 then h101 c L d z else hG i c L d z) else (bif Nat.beq i 122 then h122 c L d z else hG i c L d z)) else (bif Nat.beq i 145 then h145 c L d z else bif Nat.blt i 145 then (bif Nat.beq i 129 then h129 c L d z else hG i c L d z) else (bif Nat.beq i 149 then h149 c L d z else hG i c L d z)))))
theorem hAll_ok (i L m : Nat) (d : TVs) : hAll i (CTp L m) L d (CTp L (m + 1) i d) = CTp L (m + 1) i d := (evq (fun e => (nqE e).symm ▸ g69 L m d) (evc (evq (fun e => (nqE e).symm ▸ g38 L m d) (evc (evq (fun e => (nqE e).symm ▸ g21 L m d) (evc (evq (fun e => (nqE e).symm ▸ g8 L m d) (evc (evq (fun e => (nqE e).symm ▸ g3 L m d) (kB i L m d)) (evq (fun e => (nqE e).symm ▸ g12 L m d) (kB i L m d)))) (evq (fun e => (nqE e).symm ▸ g35 L m d) (evc (evq (fun e => (nqE e).symm ▸ g33 L m d) (kB i L m d)) (evq (fun e => (nqE e).symm ▸ g36 L m d) (kB i L m d)))))) (evq (fun e => (nqE e).symm ▸ g58 L m d) (evc (evq (fun e => (nqE e).symm ▸ g52 L m d) (evc (evq (fun e => (nqE e).symm ▸ g48 L m d) (kB i L m d)) (evq (fun e => (nqE e).symm ▸ g57 L m d) (kB i L m d)))) (evq (fun e => (nqE e).symm ▸ g67 L m d) (evc (evq (fun e => (nqE e).symm ▸ g60 L m d) (kB i L m d)) (evq (fun e => (nqE e).symm ▸ g68 L m d) (kB i L m d)))))))) (evq (fun e => (nqE e).symm ▸ g100 L m d) (evc (evq (fun e => (nqE e).symm ▸ g88 L m d) (evc (evq (fun e => (nqE e).symm ▸ g78 L m d) (evc (evq (fun e => (nqE e).symm ▸ g77 L m d) (kB i L m d)) (evq (fun e => (nqE e).symm ▸ g82 L m d) (kB i L m d)))) (evq (fun e => (nqE e).symm ▸ g96 L m d) (evc (evq (fun e => (nqE e).symm ▸ g95 L m d) (kB i L m d)) (evq (fun e => (nqE e).symm ▸ g99 L m d) (kB i L m d)))))) (evq (fun e => (nqE e).symm ▸ g126 L m d) (evc (evq (fun e => (nqE e).symm ▸ g107 L m d) (evc (evq (fun e => (nqE e).symm ▸ g101 L m d) (kB i L m d)) (evq (fun e => (nqE e).symm ▸ g122 L m d) (kB i L m d)))) (evq (fun e => (nqE e).symm ▸ g145 L m d) (evc (evq (fun e => (nqE e).symm ▸ g129 L m d) (kB i L m d)) (evq (fun e => (nqE e).symm ▸ g149 L m d) (kB i L m d))))))))))
end Go.TV
namespace Go.TV
open Go.AI Go.PI Go.Proofs
noncomputable def evB (K : TC0) (up : Nat → TC0) (L : Nat) : Nat → TC0
 | 0 => up 0
 | n + 1 => fun i d => match K i d with | some r => some r | none => hAll i (evB K up L n) L d (up (n + 1) i d)
noncomputable def upT (L N : Nat) : Nat → TC0 := fun n => CTp L (N + n)
theorem aBV {K : TC0} {L N : Nat} (hK : ∀ n i d r, K i d = some r → CTp L (N + n + 1) i d = some r) : ∀ n, evB K (upT L N) L n = CTp L (N + n)
 | 0 => rfl
 | n + 1 => by
  funext i d
  show (match K i d with | some r => some r | none => hAll i (evB K (upT L N) L n) L d (CTp L (N + n + 1) i d)) = CTp L (N + n + 1) i d
  rw [aBV hK n]
  split
  ·rename_i r e; exact (hK n i d r e).symm
  ·exact hAll_ok i L (N + n) d
end Go.TV
namespace Go.TV
open Go.AI Go.PI Go.Proofs
set_option maxRecDepth 20000
theorem call_o {P : Program} {T : TP U0.D} {l : List (Nat × Ins)} {i : Nat} {x : Ins} (hx : oG l i = some x) (hs : T.sig i = some x.sig) (hb : (okS T.orc x.sig && Nat.ble x.sig.bx.length 100 && okBx x.sig.bx.length x.sig.bx) = true) (L n : Nat) (d : TVs) {y : OV} (ho : orT U0 T.orc x.sig d = some y) :
    wZ U0 T (tabL P l) L (n + 1) i d = some [ovT U0 y] := by
 have hg : tabL P l i = some (fG x.sk (mD P x.sig.f), aCA P x.sig.f) := by simp only [tabL, hx]
 simp only [wZ, hs, hg, hb, cdt, ho]
def Kf : TC0 := fun i d => bif Nat.beq i 137 then (match orT U0 orcI ii137.sig d with | some x => some [ovT U0 x] | none => none) else none
noncomputable def cF (L M k : Nat) : TC0 := evB Kf (upT (L + 7000) M) (L + 7000) k
theorem cF_ok (L M k : Nat) : cF L M k = CTp (L + 7000) (M + k) := aBV (fun n i d r h => by
 unfold Kf at h
 cases hb : Nat.beq i 137 with
 | false => rw [hb] at h; cases h
 | true =>
  rw [hb, cdt] at h
  split at h
  ·rename_i x hx
   simp only [ojE] at h
   subst h
   rw [nqE hb]
   exact call_o (x := ii137) (by kernel_rfl) (by kernel_rfl) (by kernel_rfl) _ _ d hx
  ·cases h) k
def userS : List UInt8 := [117, 115, 101, 114]
def zrO : G.O := ⟨0, [], [], ⟨[], []⟩, [], []⟩
def tV (w : List UInt8) : G.T := ⟨1, ⟨userS, w⟩, zrO, []⟩
def tA (f : G.Y) (l : List G.T) : G.T := ⟨3, f, zrO, l⟩
def tC (o : G.O) : G.T := ⟨2, ⟨[], []⟩, o, []⟩
def niO : G.O := ⟨2, [], [], ⟨iE, [110, 105, 108]⟩, [], []⟩
def cnO (a b : G.O) : G.O := ⟨4, [], [], ⟨[], []⟩, [], [a, b]⟩
def ObR (x : Rt) : Prop := ∃ o : G.O, x = some [yR 2 o] ∧ osz o ≤ 20
def chO (r : Rt) : Bool := match r with | some [⟨.rc 2, o⟩] => Nat.ble (osz o) 20 | _ => false
theorem mC {r : Rt} (h : chO r = true) : ObR r := by
 unfold chO at h
 split at h
 ·rename_i o; exact ⟨o, rfl, Nat.le_of_ble_eq_true h⟩
 ·cases h
section
variable (L M : Nat)
theorem v_ok (w : List UInt8) : cF L M 60 10 [yT w] = some [yR 3 (tV w)] := by kernel_rfl
theorem l_ok (w : List UInt8) (l : List G.T) : cF L M 60 11 [yT w, yS 3 l] = some [yR 3 (tA ⟨iE, w⟩ l)] := by kernel_rfl
theorem a_ok (f : G.Y) (l : List G.T) : cF L M 60 48 [yR 1 f, yS 3 l] = some [yR 3 (tA f l)] := by kernel_rfl
theorem k_ok (o : G.O) : cF L M 60 20 [yR 2 o] = some [yR 3 (tC o)] := by kernel_rfl
theorem u_ok (w : List UInt8) : cF L M 60 15 [yT w] = some [yR 1 ⟨userS, w⟩] := by kernel_rfl
theorem s_ok (w : List UInt8) : cF L M 60 59 [yT w] = some [yR 1 ⟨iE, w⟩] := by kernel_rfl
theorem cn_ok (a b : G.O) : cF L M 60 54 [yR 2 a, yR 2 b] = some [yR 2 (cnO a b)] := by kernel_rfl
theorem li0_ok : cF L M 60 55 [yS 2 []] = some [yR 2 niO] := by kernel_rfl
theorem li1_ok (a : G.O) : cF L M 60 55 [yS 2 ([a] : List G.O)] = some [yR 2 (cnO a niO)] := by kernel_rfl
theorem li2_ok (a b : G.O) : cF L M 60 55 [yS 2 ([a, b] : List G.O)] = some [yR 2 (cnO a (cnO b niO))] := by kernel_rfl
theorem li3_ok (a b d : G.O) : cF L M 60 55 [yS 2 ([a, b, d] : List G.O)] = some [yR 2 (cnO a (cnO b (cnO d niO)))] := by kernel_rfl
theorem ob_n : ObR (cF L M 60 33 []) := mC (by kernel_rfl)
theorem ob_t : ObR (cF L M 60 49 []) := mC (by kernel_rfl)
theorem ob_i (r : Int) (h0 : 0 ≤ r) (h1 : r < 7) : ObR (cF L M 60 50 [yI (IntKind.i64.wrap (r - 3))]) := by
 obtain rfl | rfl | rfl | rfl | rfl | rfl | rfl : r = 0 ∨ r = 1 ∨ r = 2 ∨ r = 3 ∨ r = 4 ∨ r = 5 ∨ r = 6 := by omega
 all_goals exact mC (by kernel_rfl)
theorem ob_0 : ObR (cF L M 60 50 [yI (0 : Int)]) := mC (by kernel_rfl)
theorem ob_1 : ObR (cF L M 60 50 [yI (1 : Int)]) := mC (by kernel_rfl)
theorem ob_q1 : ObR (cF L M 60 51 [yT ([49] : List UInt8), yT ([50] : List UInt8)]) := mC (by kernel_rfl)
theorem ob_q2 : ObR (cF L M 60 51 [yT ([45, 53] : List UInt8), yT ([51] : List UInt8)]) := mC (by kernel_rfl)
theorem ob_s1 (y : G.Y) : ObR (cF L M 60 52 [yR 1 y]) := mC (by kernel_rfl)
theorem ob_x (w : List UInt8) : ObR (cF L M 60 53 [yT w]) := mC (by kernel_rfl)
theorem hd_ok : ∃ l : List (List UInt8), cF L M 60 57 [] = some [⟨.sl .str, l⟩] ∧ l.length = 25 := ⟨match B57x0 (fun _ _ => none) with | some (⟨.sl .str, t⟩ :: _) => t | _ => [], by kernel_rfl, by kernel_rfl⟩
theorem ow_ok : ∃ l : List (List UInt8), cF L M 60 58 [] = some [⟨.sl .str, l⟩] ∧ l.length = 8 := ⟨match B58x0 (fun _ _ => none) with | some (⟨.sl .str, t⟩ :: _) => t | _ => [], by kernel_rfl, by kernel_rfl⟩
end
structure Lib (c : TC0) : Prop where
 v : ∀ w, c 10 [yT w] = some [yR 3 (tV w)]
 l : ∀ w (l : List G.T), c 11 [yT w, yS 3 l] = some [yR 3 (tA ⟨iE, w⟩ l)]
 a : ∀ (f : G.Y) (l : List G.T), c 48 [yR 1 f, yS 3 l] = some [yR 3 (tA f l)]
 k : ∀ o : G.O, c 20 [yR 2 o] = some [yR 3 (tC o)]
 u : ∀ w, c 15 [yT w] = some [yR 1 (⟨userS, w⟩ : G.Y)]
 s : ∀ w, c 59 [yT w] = some [yR 1 (⟨iE, w⟩ : G.Y)]
 cn : ∀ a b : G.O, c 54 [yR 2 a, yR 2 b] = some [yR 2 (cnO a b)]
 l0 : c 55 [yS 2 ([] : List G.O)] = some [yR 2 niO]
 l1 : ∀ a : G.O, c 55 [yS 2 ([a] : List G.O)] = some [yR 2 (cnO a niO)]
 l2 : ∀ a b : G.O, c 55 [yS 2 ([a, b] : List G.O)] = some [yR 2 (cnO a (cnO b niO))]
 l3 : ∀ a b d : G.O, c 55 [yS 2 ([a, b, d] : List G.O)] = some [yR 2 (cnO a (cnO b (cnO d niO)))]
 n : ObR (c 33 [])
 t : ObR (c 49 [])
 i : ∀ r : Int, 0 ≤ r → r < 7 → ObR (c 50 [yI (IntKind.i64.wrap (r - 3))])
 i0 : ObR (c 50 [yI (0 : Int)])
 i1 : ObR (c 50 [yI (1 : Int)])
 q1 : ObR (c 51 [yT ([49] : List UInt8), yT ([50] : List UInt8)])
 q2 : ObR (c 51 [yT ([45, 53] : List UInt8), yT ([51] : List UInt8)])
 sy : ∀ y : G.Y, ObR (c 52 [yR 1 y])
 x : ∀ w, ObR (c 53 [yT w])
 hd : ∃ l : List (List UInt8), c 57 [] = some [⟨.sl .str, l⟩] ∧ l.length = 25
 ow : ∃ l : List (List UInt8), c 58 [] = some [⟨.sl .str, l⟩] ∧ l.length = 8
 nx : ∀ (s : G.Z) (a : Int), bE s → 1 ≤ a → NxR (c 16 [yI a, yR 0 s]) a
theorem lib_ok (L M : Nat) : Lib (CTp (L + 7000) (M + 60)) := by
 have h : ∀ (s : G.Z) (a : Int), bE s → 1 ≤ a → NxR (CTp (L + 7000) (M + 60) 16 [yI a, yR 0 s]) a := fun s a h1 h2 => Nx_ok (n := M + 59) h1 h2
 rw [← cF_ok] at h ⊢
 exact ⟨v_ok L M, l_ok L M, a_ok L M, k_ok L M, u_ok L M, s_ok L M, cn_ok L M, li0_ok L M, li1_ok L M, li2_ok L M, li3_ok L M, ob_n L M, ob_t L M, ob_i L M, ob_0 L M, ob_1 L M, ob_q1 L M, ob_q2 L M, ob_s1 L M, ob_x L M, hd_ok L M, ow_ok L M, h⟩
end Go.TV
namespace Go.TV
open Go.AI Go.PI Go.Proofs
def OSR (x : Rt) (B : Nat) : Prop := ∃ (o : G.O) (s : G.Z), x = some [yR 2 o, yR 0 s] ∧ osz o ≤ B ∧ bE s
theorem OSR.mk {o : G.O} {s : G.Z} {B : Nat} (h : osz o ≤ B) (hs : bE s) : OSR (some [yR 2 o, yR 0 s]) B := ⟨o, s, rfl, h, hs⟩
theorem OSR.le {x : Rt} {A B : Nat} (h : OSR x A) (hl : A ≤ B) : OSR x B := by obtain ⟨o, s, h1, h2, h3⟩ := h; exact ⟨o, s, h1, by omega, h3⟩
theorem zG {β : Type} {a : G.O} {K : G.O × Unit → Option β} : obL (D := U0.D) [.rc 2] (some [yR 2 a]) K = K (a, ()) := rfl
theorem vI {β : Type} {a : G.O} {b : G.Z} {K : G.O × G.Z × Unit → Option β} : obL (D := U0.D) [.rc 2, .rc 0] (some [yR 2 a, yR 0 b]) K = K (a, b, ()) := rfl
theorem obL_ys {β : Type} {a : G.Y} {K : G.Y × Unit → Option β} : obL (D := U0.D) [.rc 1] (some [yR 1 a]) K = K (a, ()) := rfl
theorem uR {α : Type} {l : List α} {lo hi : Int} (h0 : 0 ≤ lo) (h1 : lo ≤ hi) (h2 : hi ≤ (l.length : Int)) : ∃ w, slc l lo hi = some w ∧ (w.length : Int) = hi - lo := by
 unfold slc
 have e1 : decide (0 ≤ lo) = true := by simpa using h0
 have e2 : decide (lo ≤ hi) = true := by simpa using h1
 have e3 : decide (hi ≤ (l.length : Int)) = true := by simpa using h2
 rw [e1, e2, e3]
 refine ⟨_, rfl, ?_⟩
 rw [List.length_drop, List.length_take]; omega
section
variable {c : TC0} (h : Lib c)
include h
theorem Ob_lo {L : Nat} {s : G.Z} (hs : bE s) {a5 a1 : Int} {b : G.O} (h0 : 0 ≤ a5) (h9 : a5 ≤ 9) : OSR (aGq c L a5 a1 s b) 20 := by
 have seven : ∀ K : Int × G.Z × Unit → Rt, (∀ r s', 0 ≤ r → r < 7 → bE s' → OSR (K (r, s', ())) 20) → OSR (obL (D := U0.D) [.int .i64, .rc 0] (c 16 [yI (7 : Int), yR 0 s]) K) 20 := fun K hK => by
  obtain ⟨r, s', e, g1, g2, g3⟩ := h.nx s 7 hs (by omega)
  rw [e, fW]; exact hK r s' g1 g2 g3
 have three : ∀ K : Int × G.Z × Unit → Rt, (∀ r s', 0 ≤ r → r < 3 → bE s' → OSR (K (r, s', ())) 20) → OSR (obL (D := U0.D) [.int .i64, .rc 0] (c 16 [yI (3 : Int), yR 0 s]) K) 20 := fun K hK => by
  obtain ⟨r, s', e, g1, g2, g3⟩ := h.nx s 3 hs (by omega)
  rw [e, fW]; exact hK r s' g1 g2 g3
 have obj : ∀ {x : Rt} {s' : G.Z}, ObR x → bE s' → OSR (obL (D := U0.D) [.rc 2] x fun (r : G.O × Unit) => some [yR 2 r.1, yR 0 s']) 20 := fun hx hs' => by
  obtain ⟨o, e, g⟩ := hx
  rw [e, zG]; exact .mk g hs'
 rw [aGq, B19x2]
 obtain rfl | rfl | rfl | rfl | rfl | rfl | rfl | rfl | rfl | rfl : a5 = 0 ∨ a5 = 1 ∨ a5 = 2 ∨ a5 = 3 ∨ a5 = 4 ∨ a5 = 5 ∨ a5 = 6 ∨ a5 = 7 ∨ a5 = 8 ∨ a5 = 9 := by omega
 ·exact obj h.n hs
 ·exact obj h.t hs
 ·exact seven _ fun r s' g1 g2 g3 => obj (h.i r g1 g2) g3
 ·exact seven _ fun r s' g1 g2 g3 => obj (h.i r g1 g2) g3
 ·exact obj h.q1 hs
 ·exact obj h.q2 hs
 ·refine three _ fun r s' g1 g2 g3 => ?_
  obtain ⟨w, e1, l1⟩ := uR (l := ([97, 98, 99] : List UInt8)) (hi := 3) g1 (by omega) (by decide)
  obtain ⟨w2, e2, l2⟩ := uR (l := w) (lo := 0) (hi := 1) (by omega) (by omega) (by omega)
  show OSR (ob (slc ([97, 98, 99] : List UInt8) r 3) fun v5 => ob (slc v5 (0 : Int) (1 : Int)) fun v6 => obL (D := U0.D) [.rc 1] (c 15 [yT v6]) fun (r7 : G.Y × Unit) => obL (D := U0.D) [.rc 2] (c 52 [yR 1 r7.1]) fun (r8 : G.O × Unit) => some [yR 2 r8.1, yR 0 s']) 20
  rw [e1, dR, e2, dR, h.u, obL_ys]
  exact obj (h.sy _) g3
 ·refine three _ fun r s' g1 g2 g3 => ?_
  obtain ⟨w, e1, l1⟩ := uR (l := ([112, 113] : List UInt8)) (lo := 0) (hi := r) (by omega) g1 (by show r ≤ 2; omega)
  show OSR (ob (slc ([112, 113] : List UInt8) 0 r) fun v10 => obL (D := U0.D) [.rc 2] (c 53 [yT v10]) fun (r11 : G.O × Unit) => some [yR 2 r11.1, yR 0 s']) 20
  rw [e1, dR]
  exact obj (h.x _) g3
 ·exact obj h.i0 hs
 ·exact obj h.i1 hs
theorem Ob0 {L : Nat} {s : G.Z} (hs : bE s) : OSR (F19 c L 0 s) 20 := by
 rw [F19, B19x0]
 obtain ⟨r, s', e, g1, g2, g3⟩ := h.nx s 14 hs (by omega)
 rw [e, fW]
 show OSR (aDh c L (decide ((9 : Int) < r)) r 0 s' _) 20
 rw [aDh, B19x1]
 cases e2 : decide ((9 : Int) < r) with
 | true =>
  simp only [djE] at e2
  obtain ⟨m, rfl⟩ : ∃ m : Nat, r = ((m + 8 : Nat) : Int) := ⟨(r - 8).toNat, by omega⟩
  rw [aK, show ((m + 8 : Nat) : Int) - 8 = (m : Int) by omega, wrapn (by omega)]
  exact Ob_lo h g3 (by omega) (by omega)
 | false =>
  simp only [dfN] at e2
  exact Ob_lo h g3 g1 (by omega)
theorem Ol_loop {L : Nat} (h0 : ∀ s, bE s → OSR (c 19 [yI (0 : Int), yR 0 s]) 20) {b : G.O} {r : Nat} (hr : r ≤ 3) :
    ∀ (j k m : Nat) (a6 : List G.O) (s : G.Z), r = k + j → a6.length = k → pI a6 ≤ 21 * k → j < m → bE s → OSR (aAJ c L m (r : Int) 1 (k : Int) a6 s b) 200 := by
 intro j
 induction j with
 | zero =>
  intro k m a6 s h1 h2 h3 h4 hs
  obtain ⟨m, rfl⟩ : ∃ m', m = m' + 1 := ⟨m - 1, by omega⟩
  have e3 : decide ((k : Int) < (r : Int)) = false := by simp; omega
  rw [aAJ, B19x5, e3, aI]
  match a6, h2 with
  | [], _ => rw [h.l0, zG]; exact .mk (by simp [niO, osz, pI]) hs
  | [a], h2 => rw [h.l1, zG]; exact .mk (by simp [pI] at h3; simp [niO, cnO, osz, pI]; simp only [lcS, lnN] at h2; omega) hs
  | [a, d], h2 => rw [h.l2, zG]; exact .mk (by simp [pI] at h3; simp [niO, cnO, osz, pI]; simp only [lcS, lnN] at h2; omega) hs
  | [a, d, e], h2 => rw [h.l3, zG]; exact .mk (by simp [pI] at h3; simp [niO, cnO, osz, pI]; simp only [lcS, lnN] at h2; omega) hs
  | _ :: _ :: _ :: _ :: l, h2 => simp at h2; omega
 | succ j ih =>
  intro k m a6 s h1 h2 h3 h4 hs
  obtain ⟨m, rfl⟩ : ∃ m', m = m' + 1 := ⟨m - 1, by omega⟩
  have e3 : decide ((k : Int) < (r : Int)) = true := by simp; omega
  rw [aAJ, B19x5, e3, aK]
  obtain ⟨o, s', e, g1, g2⟩ := h0 s hs
  show OSR (obL (D := U0.D) [.rc 2, .rc 0] (c 19 [yI (0 : Int), yR 0 s]) _) 200
  rw [e, vI]
  have e4 : Nat.ble ((a6.length + ([o] : List G.O).length) * 112) 1073741824 = true := by
   rw [Nat.ble_eq]; simp only [lcS, lnN]; omega
  simp only [e4, tX]
  rw [eI (by omega)]
  have hz : ∀ l : List G.O, pI (l ++ [o]) = pI l + osz o + 1 := by
   intro l
   induction l with
   | nil => simp [pI]
   | cons x l ih => simp only [cnA, pI, ih]; omega
  exact ih (k + 1) m (a6 ++ [o]) s' (by omega) (by simp; omega) (by rw [hz]; omega) (by omega) g2
theorem Ob1 {L : Nat} (hL : 10 ≤ L) (h0 : ∀ s, bE s → OSR (c 19 [yI (0 : Int), yR 0 s]) 20) {s : G.Z} (hs : bE s) : OSR (F19 c L 1 s) 200 := by
 rw [F19, B19x0]
 obtain ⟨r, s', e, g1, g2, g3⟩ := h.nx s 14 hs (by omega)
 rw [e, fW]
 show OSR (aDh c L false r 1 s' _) 200
 rw [aDh, B19x1, aI]
 by_cases h9 : r ≤ 9
 ·exact (Ob_lo h g3 g1 h9).le (by omega)
 have lst : ∀ b, OSR (aDg c L true 1 s' b) 200 := fun b => by
  rw [aDg, B19x4, aK]
  obtain ⟨q, s2, e, k1, k2, k3⟩ := h.nx s' 4 g3 (by omega)
  rw [e, fW]
  obtain ⟨m, rfl⟩ : ∃ m : Nat, q = (m : Int) := ⟨q.toNat, by omega⟩
  exact Ol_loop h h0 (by omega) m 0 L [] s2 (by omega) rfl (Nat.zero_le _) (by omega) k3
 rw [aGq, B19x2]
 obtain rfl | rfl | rfl | rfl : r = 10 ∨ r = 11 ∨ r = 12 ∨ r = 13 := by omega
 ·exact lst _
 ·exact lst _
 ·exact lst _
 ·have pr : ∀ b, OSR (aDg c L false 1 s' b) 200 := fun b => by
   rw [aDg, B19x4, aI]
   obtain ⟨o, s2, e, k1, k2⟩ := h0 s' g3
   show OSR (obL (D := U0.D) [.rc 2, .rc 0] (c 19 [yI (0 : Int), yR 0 s']) _) 200
   rw [e, vI]
   obtain ⟨o2, s3, e, k3, k4⟩ := h0 s2 k2
   show OSR (obL (D := U0.D) [.rc 2, .rc 0] (c 19 [yI (0 : Int), yR 0 s2]) _) 200
   rw [e, vI, h.cn, zG]
   exact .mk (by simp only [cnO, osz, pI]; omega) k4
  exact pr zrO
end
end Go.TV
